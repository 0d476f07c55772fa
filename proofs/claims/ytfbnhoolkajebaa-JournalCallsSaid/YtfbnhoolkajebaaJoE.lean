/- What the document reads: plain law; contracts. Conditions: none beyond those that each theorem states. -/
import Derived.Test.YtfbnhoolkajebaaJoC
namespace Go.Proofs.Ytfbnhoolkajebaa
set_option linter.unusedVariables false
set_option linter.unusedSimpArgs false
/-! ### What the document reads -/
theorem natB_lt4 {l : List (BitVec 8)} (h : l.length ≤ 4) : natB l < 4294967296 := by
  have := (getB_nat l oM).2
  have h2 : 256 ^ l.length ≤ 256 ^ 4 := Nat.pow_le_pow_right (by decide) h
  omega
theorem natB_lt2 {l : List (BitVec 8)} (h : l.length ≤ 2) : natB l < 65536 := by
  have := (getB_nat l oM).2
  have h2 : 256 ^ l.length ≤ 256 ^ 2 := Nat.pow_le_pow_right (by decide) h
  omega
theorem natB_succ {l : List (BitVec 8)} {k : Nat} (h : k < l.length) : natB (l.take (k + 1)) = natB (l.take k) * 256 + (l.getD k 0).toNat := by
  rw [← take_snoc (d := 0) h, natB_snoc]
theorem natB_0 (l : List (BitVec 8)) : (0 : Int) = (natB (l.take 0) : Int) := rfl
def gY (x : List (BitVec 8)) : Nat := natB ((x.drop 0).take 4)
def rY (x : List (BitVec 8)) : Nat := natB ((x.drop 4).take 4)
def pY (x : List (BitVec 8)) : Nat := natB ((x.drop 8).take 2)
def nY (x : List (BitVec 8)) : Nat := natB ((x.drop 10).take 2)
def wholeY (x : List (BitVec 8)) : Bool := ((x.drop 0).take 10 == (x.drop 54).take 10) && (decide ((nY x : Int) ≤ 42) && ((nY x : Int) == 42 || decide (32768 ≤ (pY x : Int))))
def dY (x : List (BitVec 8)) : List (BitVec 8) := (x.drop 12).take (nY x)
theorem gY_lt (x : List (BitVec 8)) : gY x < 4294967296 := natB_lt4 (by simp; omega)
theorem rY_lt (x : List (BitVec 8)) : rY x < 4294967296 := natB_lt4 (by simp; omega)
theorem pY_lt (x : List (BitVec 8)) : pY x < 65536 := natB_lt2 (by simp; omega)
theorem nY_lt (x : List (BitVec 8)) : nY x < 65536 := natB_lt2 (by simp; omega)
theorem nY_def {x : List (BitVec 8)} : natB ((x.drop 10).take 2) = nY x := rfl
theorem dY_eq {x : List (BitVec 8)} : (x.drop (12 : Int).toNat).take ((12 + (natB ((x.drop 10).take 2) : Int) : Int).toNat - (12 : Int).toNat) = dY x := by
  rw [nY_def]
  unfold dY
  have e1 : (12 : Int).toNat = 12 := rfl
  have e2 : (12 + (nY x : Int) : Int).toNat = 12 + nY x := by omega
  rw [e1, e2, Nat.add_sub_cancel_left]
theorem whole_n {x : List (BitVec 8)} (h : wholeY x = true) : nY x ≤ 42 := by
  unfold wholeY at h
  rw [Bool.and_eq_true, Bool.and_eq_true] at h
  have := of_decide_eq_true h.2.1; omega
theorem dY_len {x : List (BitVec 8)} (h : wholeY x = true) : (dY x).length ≤ 42 := by have := whole_n h; unfold dY; simp; omega
def OkY (x : List (BitVec 8)) (g m p : Nat) : Prop := wholeY x = true ∧ gY x = g ∧ rY x = m ∧ pY x % 32768 = p
instance {x : List (BitVec 8)} {g m p : Nat} : Decidable (OkY x g m p) := by unfold OkY; infer_instance
def halfL (g : Nat) : List (List (BitVec 8)) → List (List (BitVec 8)) → List (BitVec 8) → Nat → List (List (BitVec 8))
  | [], out, _, _ => out
  | x :: xs, out, part, p => if OkY x g out.length p then (if 32768 ≤ pY x then halfL g xs (out ++ [part ++ dY x]) [] 0 else halfL g xs out (part ++ dY x) (p + 1)) else out
section
variable {g i p : Nat} {B out F : List (List (BitVec 8))} {part : List (BitVec 8)}
theorem drop_getD (h : i < B.length) : B.drop i = B.getD i [] :: B.drop (i + 1) := by
  rw [List.drop_eq_getElem_cons h]; simp [List.getD_eq_getElem?_getD, h]
theorem half_end (h : ¬ i < B.length) (hF : halfL g (B.drop i) out part p = F) : F = out := by
  rw [← hF, List.drop_of_length_le oM]; rfl
theorem half_no (h : i < B.length) (hn : ¬ OkY (B.getD i []) g out.length p) (hF : halfL g (B.drop i) out part p = F) : F = out := by
  rw [← hF, drop_getD h]; show (if _ then _ else _) = _; rw [if_neg hn]
theorem half_last (h : i < B.length) (hn : OkY (B.getD i []) g out.length p) (hl : 32768 ≤ pY (B.getD i [])) (hF : halfL g (B.drop i) out part p = F) : halfL g (B.drop (i + 1)) (out ++ [part ++ dY (B.getD i [])]) [] 0 = F := by
  rw [← hF, drop_getD h]; symm; show (if _ then _ else _) = _; rw [if_pos hn, if_pos hl]
theorem half_more (h : i < B.length) (hn : OkY (B.getD i []) g out.length p) (hl : ¬ 32768 ≤ pY (B.getD i [])) (hF : halfL g (B.drop i) out part p = F) : halfL g (B.drop (i + 1)) out (part ++ dY (B.getD i [])) (p + 1) = F := by
  rw [← hF, drop_getD h]; symm; show (if _ then _ else _) = _; rw [if_pos hn, if_neg hl]
end
/-- The document's half: its generation, its records. -/
def halfR (B : List (List (BitVec 8))) : Nat × List (List (BitVec 8)) :=
  if B.length = 0 then (0, []) else if wholeY (B.getD 0 []) = false then (0, []) else if gY (B.getD 0 []) = 0 then (0, [])
  else if (halfL (gY (B.getD 0 [])) B [] [] 0).length = 0 then (0, []) else (gY (B.getD 0 []), halfL (gY (B.getD 0 [])) B [] [] 0)
theorem halfR_0 {B : List (List (BitVec 8))} (h : B.length = 0) : halfR B = (0, []) := by unfold halfR; rw [if_pos h]
theorem halfR_1 {B : List (List (BitVec 8))} (h : wholeY (B.getD 0 []) = false) : halfR B = (0, []) := by
  unfold halfR; by_cases e : B.length = 0
  · rw [if_pos e]
  · rw [if_neg e, if_pos h]
theorem halfR_2 {B : List (List (BitVec 8))} (h : gY (B.getD 0 []) = 0) : halfR B = (0, []) := by
  unfold halfR
  by_cases e : B.length = 0
  · rw [if_pos e]
  · rw [if_neg e]
    by_cases e2 : wholeY (B.getD 0 []) = false
    · rw [if_pos e2]
    · rw [if_neg e2, if_pos h]
theorem halfR_3 {B : List (List (BitVec 8))} (h0 : ¬ B.length = 0) (h1 : wholeY (B.getD 0 []) = true) (h2 : ¬ gY (B.getD 0 []) = 0) {out : List (List (BitVec 8))} (h3 : halfL (gY (B.getD 0 [])) B [] [] 0 = out) : halfR B = if out.length = 0 then (0, []) else (gY (B.getD 0 []), out) := by
  unfold halfR; rw [if_neg h0, if_neg (by rw [h1]; simp), if_neg h2, h3]
def diskR (B : List (List (BitVec 8))) : Bool × Nat × List (List (BitVec 8)) :=
  let n : Int := (B.length : Int) / 2
  let a := halfR ((B.drop (0 : Int).toNat).take (n.toNat - (0 : Int).toNat))
  let c := halfR ((B.drop n.toNat).take ((2 * n).toNat - n.toNat))
  if a.1 < c.1 then (true, c.1, c.2) else (false, a.1, a.2)
/-- The greatest number of a generation. -/
def topK (B : List (List (BitVec 8))) : Nat → Nat
  | 0 => 0
  | k + 1 => max (max (topK B k) (natB (((B.getD k []).drop 0).take 4))) (natB (((B.getD k []).drop 54).take 4))
theorem topK_lt (B : List (List (BitVec 8))) : ∀ k, topK B k < 4294967296
  | 0 => by show 0 < _; omega
  | k + 1 => by
    have h1 := topK_lt B k
    have h2 := natB_lt4 (l := ((B.getD k []).drop 0).take 4) (by simp; omega)
    have h3 := natB_lt4 (l := ((B.getD k []).drop 54).take 4) (by simp; omega)
    show max (max _ _) _ < _; omega
theorem topK_0 {B : List (List (BitVec 8))} : (0 : Int) = (topK B 0 : Int) := rfl
theorem topK_S {B : List (List (BitVec 8))} {k : Nat} {a b c : Int} (ha : a = (topK B k : Int)) (hb : b = (natB (((B.getD k []).drop 0).take 4) : Int)) (hc : c = (natB (((B.getD k []).drop 54).take 4) : Int)) : maxI (maxI a b) c = (topK B (k + 1) : Int) := by
  subst ha hb hc
  show _ = ((max (max _ _) _ : Nat) : Int)
  unfold maxI; split <;> split <;> omega
attribute [local irreducible] crashB crashK pushB readB inB errB cutN seenW
attribute [local irreducible] markB putB getB getK partB placeF blkOf rawB writeK blocksN
attribute [local irreducible] mostK newB roomB
attribute [local irreducible] recB recF recN genF badB lastP dataB gOf rOf pOf nOf loopH readH
attribute [local irreducible] okP layK turnL turnP oldB
attribute [local irreducible] openD
attribute [local irreducible] okG okV GB natB fitsB
attribute [local irreducible] syncF
attribute [local irreducible] gY rY pY nY wholeY dY halfL halfR diskR topK maxI

set_option maxHeartbeats 2000000 in
theorem c_rnumber (vb : Value) (b : List (BitVec 8)) (w0 : World)  (hb : Rd (blks w0) u8 vb b) (hbl : b.length ≤ 4) : CallsR Try.prog 56 #[vb] w0 (fun r w1 => r = (i64 (natB b : Int)) ∧ Ext w0 w1) := by
 refine callsR_of_cw (args := [vb]) Try.func56 rfl Try.ntmps56 Try.results56 rfl ?_
 have hm0 : Mem w0 (restOf w0) [] := Mem.of_world w0
 refine sR <| rw_q rfl (ev_assign (v := (i64 0)) rfl) ?_
 refine rN (sR ?_)
 refine rw_q rfl (ev_assign (v := (i64 0)) rfl) ?_
 refine rN (cw_seq (sR ?_))
 refine rw_q rfl (ev_assign (v := (i64 0)) rfl) ?_
 refine rN (cw_block ?_)
 refine cw_loop (fun g wv => ∃ (k : Nat), (k ≤ b.length) ∧ g 0 = vb ∧ g 2 = (i64 0) ∧ g 3 = (i64 (natB (b.take k) : Int)) ∧ g 4 = (i64 (k : Int)) ∧ Mem wv (restOf w0) []) (fun g wv => ((b.length : Int) - RowKit.intOf (g 4)).toNat) ?_ ?_
 · exact ⟨0, (Nat.zero_le _), rfl, rfl, (congrArg i64 (natB_0 b)), rfl, hm0⟩
 · rintro fr1 w2 ⟨k, hk, s0, s2, s3, s4, hm2⟩
   have z3 := s3
   have z4 := s4
   refine cw_seq (sR ?_)
   refine rM rfl s4 <| rM rfl s0 <| rw_q (v := (i64 (b.length : Int))) rfl (ev_len_rd (Rd.ofRest hb hm2) uT23 rfl) <| rw_q rfl (ev_i64_lss rfl rfl) <| rN ?_
   refine cw_cond rfl (fun hc3 => ?_) (fun hc3 => ?_)
   · -- true
     have hc3p := of_decide_eq_true hc3
     have hn4 := natB_lt4 (l := b.take k) (by simp; omega)
     have hns := natB_succ (l := b) (k := k) oM
     have hc8 := (b.getD k 0).isLt
     refine cw_skip (kThen_normal (cw_seq (cw_block (cw_region ?_))))
     refine rM rfl s3 <| rw_q rfl (ev_i64_mul (a := 256) rfl rfl oM oM) <| rM rfl s0 <| rM rfl s4 <| rw_q rfl (ev_indexAddr_rdv (Rd.ofRest hb hm2) uT23 ti5 rfl rfl oM sL) <| rw_q (v := (u8 (b.getD k 0))) rfl (ev_load_rdD (l := b) (i := (k : Int)) (dflt := 0) (Rd.ofRest hb hm2) uT5 rfl oM sL rfl) ?_
     refine rw_q rfl (ev_conv_u8_i64 ⟨_, uT5⟩ uT3 rfl) <| rw_q rfl (ev_i64_add rfl rfl oM oM) <| rw_q rfl (ev_assign (v := (i64 ((256 * (natB (b.take k) : Int)) + ((b.getD k 0).toNat : Int)))) rfl) ?_
     refine rw_nil (kBlk_normal (cw_region ?_))
     refine rM rfl s4 <| rw_q rfl (ev_i64_add (b := 1) rfl rfl oM oM) <| rw_q rfl (ev_assign (v := (i64 ((k : Int) + 1))) rfl) <| rN ?_
     exact ⟨⟨(k + 1), oM, s0, s2, (Eq.trans rfl (congrArg i64 (by rw [hns]; omega))), rfl, hm2⟩, meas (rfl) z4 oM oM⟩
   · -- false
     have hc3p := of_decide_eq_false hc3
     refine cw_exit ?_
     refine kThen_exit (kThen_exit (kBlk_hit ?_))
     refine sR <| rM rfl s3 <| rw_q rfl (ev_assign (v := (i64 (natB (b.take k) : Int))) rfl) ?_
     refine rN (cw_ret ?_)
     refine fnPost_ret [(i64 (natB (b.take k) : Int))] ⟨rfl, trivial⟩ ?_
     exact ⟨congrArg i64 (by rw [show k = b.length by omega, List.take_length]), hm2.toExt⟩

set_option maxHeartbeats 2000000 in
theorem c_rgen (x : List (BitVec 8)) (w0 : World)  (hx : x.length = 64) : CallsR Try.prog 75 #[(agg u8 x)] w0 (fun r w1 => r = (i64 (gY x : Int)) ∧ Ext w0 w1) := by
 refine callsR_of_cw (args := [(agg u8 x)]) Try.func75 rfl Try.ntmps75 Try.results75 rfl ?_
 have hm0 : Mem w0 (restOf w0) [] := Mem.of_world w0
 refine sR <| rw_c rfl (or_box_agg (f := u8) (l := x) hm0 rfl) ?_
 rintro _ w1 ⟨b1, rfl, _ew1, hm1⟩
 refine rw_q rfl (ev_assign (v := (i64 0)) rfl) ?_
 refine rN (sR ?_)
 refine rw_q rfl (ev_slice_sla (i := 0) (j := 4) uT83 ti5 rfl (optI_some (k := .i64) (i := 0) rfl) (optI_some (k := .i64) (i := 4) rfl) oM sL sL) <| rw_c rfl (opR_call Try.func56 bd56 nm56 (args1 rfl) (c_rnumber (sla b1 0 1 0 4 64) ((x.drop 0).take 4) _ (Rd.cast (l' := (x.drop 0).take 4) (Rd.sla hm1.h0 sL oM sL sL) rfl) sL)) ?_
 rintro _ w2 ⟨rfl, _ew2⟩
 have hm2 := hm1.ext _ew2
 refine rw_q rfl (ev_assign (v := (i64 (natB ((x.drop 0).take 4) : Int))) rfl) ?_
 refine rN (cw_ret ?_)
 refine fnPost_ret [(i64 (natB ((x.drop 0).take 4) : Int))] ⟨rfl, trivial⟩ ?_
 exact ⟨congrArg i64 (by unfold gY; rfl), hm2.toExt⟩

set_option maxHeartbeats 2000000 in
theorem c_rrecord (x : List (BitVec 8)) (w0 : World)  (hx : x.length = 64) : CallsR Try.prog 76 #[(agg u8 x)] w0 (fun r w1 => r = (i64 (rY x : Int)) ∧ Ext w0 w1) := by
 refine callsR_of_cw (args := [(agg u8 x)]) Try.func76 rfl Try.ntmps76 Try.results76 rfl ?_
 have hm0 : Mem w0 (restOf w0) [] := Mem.of_world w0
 refine sR <| rw_c rfl (or_box_agg (f := u8) (l := x) hm0 rfl) ?_
 rintro _ w1 ⟨b1, rfl, _ew1, hm1⟩
 refine rw_q rfl (ev_assign (v := (i64 0)) rfl) ?_
 refine rN (sR ?_)
 refine rw_q rfl (ev_slice_sla (i := 4) (j := 8) uT83 ti5 rfl (optI_some (k := .i64) (i := 4) rfl) (optI_some (k := .i64) (i := 8) rfl) oM sL sL) <| rw_c rfl (opR_call Try.func56 bd56 nm56 (args1 rfl) (c_rnumber (sla b1 0 1 4 8 64) ((x.drop 4).take 4) _ (Rd.cast (l' := (x.drop 4).take 4) (Rd.sla hm1.h0 sL oM sL sL) rfl) sL)) ?_
 rintro _ w2 ⟨rfl, _ew2⟩
 have hm2 := hm1.ext _ew2
 refine rw_q rfl (ev_assign (v := (i64 (natB ((x.drop 4).take 4) : Int))) rfl) ?_
 refine rN (cw_ret ?_)
 refine fnPost_ret [(i64 (natB ((x.drop 4).take 4) : Int))] ⟨rfl, trivial⟩ ?_
 exact ⟨congrArg i64 (by unfold rY; rfl), hm2.toExt⟩

set_option maxHeartbeats 2000000 in
theorem c_rplace (x : List (BitVec 8)) (w0 : World)  (hx : x.length = 64) : CallsR Try.prog 77 #[(agg u8 x)] w0 (fun r w1 => r = (i64 (pY x : Int)) ∧ Ext w0 w1) := by
 refine callsR_of_cw (args := [(agg u8 x)]) Try.func77 rfl Try.ntmps77 Try.results77 rfl ?_
 have hm0 : Mem w0 (restOf w0) [] := Mem.of_world w0
 refine sR <| rw_c rfl (or_box_agg (f := u8) (l := x) hm0 rfl) ?_
 rintro _ w1 ⟨b1, rfl, _ew1, hm1⟩
 refine rw_q rfl (ev_assign (v := (i64 0)) rfl) ?_
 refine rN (sR ?_)
 refine rw_q rfl (ev_slice_sla (i := 8) (j := 10) uT83 ti5 rfl (optI_some (k := .i64) (i := 8) rfl) (optI_some (k := .i64) (i := 10) rfl) oM sL sL) <| rw_c rfl (opR_call Try.func56 bd56 nm56 (args1 rfl) (c_rnumber (sla b1 0 1 8 10 64) ((x.drop 8).take 2) _ (Rd.cast (l' := (x.drop 8).take 2) (Rd.sla hm1.h0 sL oM sL sL) rfl) sL)) ?_
 rintro _ w2 ⟨rfl, _ew2⟩
 have hm2 := hm1.ext _ew2
 refine rw_q rfl (ev_assign (v := (i64 (natB ((x.drop 8).take 2) : Int))) rfl) ?_
 refine rN (cw_ret ?_)
 refine fnPost_ret [(i64 (natB ((x.drop 8).take 2) : Int))] ⟨rfl, trivial⟩ ?_
 exact ⟨congrArg i64 (by unfold pY; rfl), hm2.toExt⟩

set_option maxHeartbeats 2000000 in
theorem c_rwhole (x : List (BitVec 8)) (w0 : World)  (hx : x.length = 64) : CallsR Try.prog 74 #[(agg u8 x)] w0 (fun r w1 => r = (bl (wholeY x)) ∧ Ext w0 w1) := by
 refine callsR_of_cw (args := [(agg u8 x)]) Try.func74 rfl Try.ntmps74 Try.results74 rfl ?_
 have hm0 : Mem w0 (restOf w0) [] := Mem.of_world w0
 refine sR <| rw_c rfl (or_box_agg (f := u8) (l := x) hm0 rfl) ?_
 rintro _ w1 ⟨b1, rfl, _ew1, hm1⟩
 refine rw_q rfl (ev_assign (v := (bl false)) rfl) ?_
 refine rN (sR ?_)
 refine rw_q rfl (ev_slice_sla (i := 10) (j := 12) uT83 ti5 rfl (optI_some (k := .i64) (i := 10) rfl) (optI_some (k := .i64) (i := 12) rfl) oM sL sL) <| rw_c rfl (opR_call Try.func56 bd56 nm56 (args1 rfl) (c_rnumber (sla b1 0 1 10 12 64) ((x.drop 10).take 2) _ (Rd.cast (l' := (x.drop 10).take 2) (Rd.sla hm1.h0 sL oM sL sL) rfl) sL)) ?_
 rintro _ w2 ⟨rfl, _ew2⟩
 have hm2 := hm1.ext _ew2
 refine rw_q rfl (ev_assign (v := (i64 (natB ((x.drop 10).take 2) : Int))) rfl) ?_
 refine rN (cw_seq ?_)
 refine cw_draw [(0, false), (1, false)] 2 (by kernel_rfl) <| dw_q rfl rfl (fun _ _hx => ev_slice_sla (i := 0) (j := 10) uT83 ti5 rfl (optI_none _ _) (optI_some (k := .i64) (i := 10) rfl) oM sL sL) <| dw_q rfl rfl (fun _ _hx => ev_slice_sla (i := 54) (j := 64) uT83 ti5 rfl (optI_some (k := .i64) (i := 54) rfl) (optI_none _ _) oM sL sL) ?_
 refine dw_nil (fun w4 _ew4 => ?_)
 have hm4 := hm2.ext _ew4
 refine rw_c rfl (opR_call Try.func36 bd36 nm36 (args2 rfl rfl) (c_same (sla b1 0 1 0 10 64) (sla b1 0 1 54 64 64) ((x.drop 0).take 10) ((x.drop 54).take 10) _ (Rd.cast (l' := (x.drop 0).take 10) (Rd.sla hm4.h0 sL oM sL sL) rfl) (Rd.cast (l' := (x.drop 54).take 10) (Rd.sla hm4.h0 sL oM sL sL) rfl) sL)) ?_
 rintro _ w5 ⟨rfl, _ew5⟩
 have hm5 := hm4.ext _ew5
 refine rw_q rfl (ev_move (v := (bl (((x.drop 0).take 10) == ((x.drop 54).take 10)))) rfl) ?_
 rcases Bool.eq_false_or_eq_true (((x.drop 0).take 10) == ((x.drop 54).take 10)) with hb7 | hb7
 · -- true
   have hb7p := eq_of_beq hb7
   refine rw_gyq (s := 9) rfl rfl hb7 rfl (ev_move (v := (i64 (natB ((x.drop 10).take 2) : Int))) rfl) <| rw_gyq (s := 9) rfl rfl hb7 rfl (ev_i64_leq (b := 42) rfl rfl) <| rw_q rfl (ev_pick_tk rfl hb7 rfl) <| rw_q rfl (ev_move (v := (bl (decide ((natB ((x.drop 10).take 2) : Int) ≤ 42)))) rfl) ?_
   rcases Bool.eq_false_or_eq_true (decide ((natB ((x.drop 10).take 2) : Int) ≤ 42)) with hb8 | hb8
   · -- true
     have hb8p := of_decide_eq_true hb8
     refine rw_gyq (s := 13) rfl rfl hb8 rfl (ev_move (v := (i64 (natB ((x.drop 10).take 2) : Int))) rfl) <| rw_gyq (s := 13) rfl rfl hb8 rfl (ev_i64_eql (b := 42) rfl rfl) <| rw_gyq (s := 13) rfl rfl hb8 rfl (ev_move (v := (bl ((natB ((x.drop 10).take 2) : Int) == 42))) rfl) ?_
     rcases Bool.eq_false_or_eq_true ((natB ((x.drop 10).take 2) : Int) == 42) with hb9 | hb9
     · -- true
       have hb9p := eq_of_beq hb9
       refine rw_gn (s := 16) rfl rfl hb9 rfl <| rw_gn (s := 16) rfl rfl hb9 rfl <| rw_gn (s := 16) rfl rfl hb9 rfl <| rw_gyq (s := 13) rfl rfl hb8 rfl (ev_pick_tk rfl hb9 rfl) <| rw_q rfl (ev_pick_tk rfl hb8 rfl) <| rw_q rfl (ev_assign (v := (bl true)) rfl) ?_
       refine rN ?_
       refine CW.abs (fun g => g 0 = (agg u8 x) ∧ g 1 = (ptr b1 0) ∧ g 2 = (bl true) ∧ g 3 = (i64 (natB ((x.drop 10).take 2) : Int)) ∧ True) ⟨rfl, rfl, rfl, rfl, trivial⟩ ?_
       rintro fr10 ⟨s0, s1, s2, s3, _⟩
       refine cw_ret <| fnPost_ret [(bl true)] ⟨s2, trivial⟩ ?_
       exact ⟨congrArg bl (by unfold wholeY nY pY; simp only [hb7, hb8, hb9, Bool.true_or, Bool.or_true, Bool.false_or, Bool.or_false, Bool.not_true, Bool.not_false, Bool.and_true, Bool.true_and, Bool.and_false, Bool.false_and]), hm5.toExt⟩
     · -- false
       have hb9p := ne_of_beq_false hb9
       refine rw_gyq (s := 16) rfl rfl hb9 rfl (ev_slice_sla (i := 8) (j := 10) uT83 ti5 rfl (optI_some (k := .i64) (i := 8) rfl) (optI_some (k := .i64) (i := 10) rfl) oM sL sL) <| rw_gy (s := 16) rfl rfl hb9 rfl (opR_call Try.func56 bd56 nm56 (args1 rfl) (c_rnumber (sla b1 0 1 8 10 64) ((x.drop 8).take 2) _ (Rd.cast (l' := (x.drop 8).take 2) (Rd.sla hm5.h0 sL oM sL sL) rfl) sL)) ?_
       rintro _ w11 ⟨rfl, _ew11⟩
       have hm11 := hm5.ext _ew11
       refine rw_gyq (s := 16) rfl rfl hb9 rfl (ev_i64_geq (b := 32768) rfl rfl) <| rw_gyq (s := 13) rfl rfl hb8 rfl (ev_pick_fk rfl hb9 rfl) <| rw_q rfl (ev_pick_tk rfl hb8 rfl) <| rw_q rfl (ev_assign (v := (bl (decide (32768 ≤ (natB ((x.drop 8).take 2) : Int))))) rfl) <| rN ?_
       refine CW.abs (fun g => g 0 = (agg u8 x) ∧ g 1 = (ptr b1 0) ∧ g 2 = (bl (decide (32768 ≤ (natB ((x.drop 8).take 2) : Int)))) ∧ g 3 = (i64 (natB ((x.drop 10).take 2) : Int)) ∧ True) ⟨rfl, rfl, rfl, rfl, trivial⟩ ?_
       rintro fr13 ⟨s0, s1, s2, s3, _⟩
       refine cw_ret <| fnPost_ret [(bl (decide (32768 ≤ (natB ((x.drop 8).take 2) : Int))))] ⟨s2, trivial⟩ ?_
       exact ⟨congrArg bl (by unfold wholeY nY pY; simp only [hb7, hb8, hb9, Bool.true_or, Bool.or_true, Bool.false_or, Bool.or_false, Bool.not_true, Bool.not_false, Bool.and_true, Bool.true_and, Bool.and_false, Bool.false_and]), hm11.toExt⟩
   · -- false
     have hb8p := of_decide_eq_false hb8
     refine rw_gn (s := 13) rfl rfl hb8 rfl <| rw_gn (s := 13) rfl rfl hb8 rfl <| rw_gn (s := 13) rfl rfl hb8 rfl <| rw_gu (s := 16) rfl rfl rfl <| rw_gu (s := 16) rfl rfl rfl <| rw_gu (s := 16) rfl rfl rfl ?_
     refine rw_gn (s := 13) rfl rfl hb8 rfl <| rw_q rfl (ev_pick_fk rfl hb8 rfl) <| rw_q rfl (ev_assign (v := (bl false)) rfl) <| rN ?_
     refine CW.abs (fun g => g 0 = (agg u8 x) ∧ g 1 = (ptr b1 0) ∧ g 2 = (bl false) ∧ g 3 = (i64 (natB ((x.drop 10).take 2) : Int)) ∧ True) ⟨rfl, rfl, rfl, rfl, trivial⟩ ?_
     rintro fr14 ⟨s0, s1, s2, s3, _⟩
     refine cw_ret <| fnPost_ret [(bl false)] ⟨s2, trivial⟩ ?_
     exact ⟨congrArg bl (by unfold wholeY nY pY; simp only [hb7, hb8, Bool.true_or, Bool.or_true, Bool.false_or, Bool.or_false, Bool.not_true, Bool.not_false, Bool.and_true, Bool.true_and, Bool.and_false, Bool.false_and]), hm5.toExt⟩
 · -- false
   have hb7p := ne_of_beq_false hb7
   refine rw_gn (s := 9) rfl rfl hb7 rfl <| rw_gn (s := 9) rfl rfl hb7 rfl <| rw_q rfl (ev_pick_fk rfl hb7 rfl) <| rw_q rfl (ev_move (v := (bl false)) rfl) <| rw_gn (s := 13) rfl rfl rfl rfl <| rw_gn (s := 13) rfl rfl rfl rfl ?_
   refine rw_gn (s := 13) rfl rfl rfl rfl <| rw_gu (s := 16) rfl rfl rfl <| rw_gu (s := 16) rfl rfl rfl <| rw_gu (s := 16) rfl rfl rfl <| rw_gn (s := 13) rfl rfl rfl rfl <| rw_q rfl (ev_pick_f rfl rfl) ?_
   refine rw_q rfl (ev_assign (v := (bl false)) rfl) <| rN ?_
   refine CW.abs (fun g => g 0 = (agg u8 x) ∧ g 1 = (ptr b1 0) ∧ g 2 = (bl false) ∧ g 3 = (i64 (natB ((x.drop 10).take 2) : Int)) ∧ True) ⟨rfl, rfl, rfl, rfl, trivial⟩ ?_
   rintro fr15 ⟨s0, s1, s2, s3, _⟩
   refine cw_ret <| fnPost_ret [(bl false)] ⟨s2, trivial⟩ ?_
   exact ⟨congrArg bl (by unfold wholeY nY pY; simp only [hb7, Bool.true_or, Bool.or_true, Bool.false_or, Bool.or_false, Bool.not_true, Bool.not_false, Bool.and_true, Bool.true_and, Bool.and_false, Bool.false_and]), hm5.toExt⟩

set_option maxHeartbeats 2000000 in
theorem c_rhalf (vB : Value) (lB : List (List (BitVec 8))) (w0 : World)  (hb : RdK (blks w0) (encA u8) 64 vB lB) (hn : lB.length ≤ 1000) : CallsR Try.prog 57 #[vB] w0 (fun r w1 => ∃ r1 ls Hs, r = .tuple #[i64 ((halfR lB).1 : Int), r1] ∧ ls.map (·.2) = (halfR lB).2 ∧ ls.length = (halfR lB).2.length ∧ GrowL mN 23 r1 ls Hs ∧ Mem w1 (restOf w0) Hs) := by
 refine callsR_of_cw (args := [vB]) Try.func57 rfl Try.ntmps57 Try.results57 rfl ?_
 have hm0 : Mem w0 (restOf w0) [] := Mem.of_world w0
 refine sR <| rw_q rfl (ev_assign (v := (i64 0)) rfl) <| rw_q rfl (ev_assign (v := (Value.slice none 0 0)) rfl) ?_
 refine rN (sR ?_)
 refine rw_c rfl (or_buildSlice_ones [] (by simp [slc, ptr, Value.oneCell', i64, u8, u32, u64, bl]) hm0 uT22 ti23 rfl (by simp [pairs]) rfl) ?_
 rintro _ w1 ⟨b10, rfl, _ew1, hm1⟩
 have hm1 : Mem w1 (restOf w0) [(b10, .cells #[] 23 (0, 0))] := hm1
 obtain ⟨HL1, gL1, hmL1⟩ : ∃ q, GrowL mN 23 (slc b10 0 0 0) [] q ∧ Mem w1 (restOf w0) (q ++ []) := ⟨_, GrowL.empty mN 23 b10, by simpa using hm1⟩
 refine rw_q rfl (ev_assign (v := (slc b10 0 0 0)) rfl) ?_
 refine rN (cw_seq (cw_seq ?_))
 rcases Bool.eq_false_or_eq_true ((lB.length : Int) == 0) with hb2 | hb2
 · -- true
   have hb2p := eq_of_beq hb2
   refine cw_region <| rM rfl (v := vB) rfl <| rw_q (v := (i64 (lB.length : Int))) rfl (ev_len_rk (RdK.ofRest hb hmL1) uT40 rfl) <| rw_q rfl (ev_i64_eql (b := 0) rfl rfl) <| rw_q rfl (ev_move (v := (bl ((lB.length : Int) == 0))) rfl) <| rw_gn (s := 14) rfl rfl hb2 rfl ?_
   refine rw_gn (s := 14) rfl rfl hb2 rfl <| rw_gn (s := 14) rfl rfl hb2 rfl <| rw_gn (s := 14) rfl rfl hb2 rfl <| rw_gn (s := 14) rfl rfl hb2 rfl <| rw_q rfl (ev_pick_tk rfl hb2 rfl) <| rw_q rfl (ev_move (v := (bl true)) rfl) ?_
   refine rw_gn (s := 21) rfl rfl rfl rfl <| rw_gn (s := 21) rfl rfl rfl rfl <| rw_gn (s := 21) rfl rfl rfl rfl <| rw_gn (s := 21) rfl rfl rfl rfl <| rw_gn (s := 21) rfl rfl rfl rfl <| rw_q rfl (ev_pick_t rfl rfl) ?_
   refine rN ?_
   refine CW.abs (fun g => g 0 = vB ∧ g 2 = (i64 0) ∧ g 3 = (Value.slice none 0 0) ∧ g 4 = (slc b10 0 0 0) ∧ g 27 = (bl true) ∧ True) ⟨rfl, rfl, rfl, rfl, rfl, trivial⟩ ?_
   rintro fr3 ⟨s0, s2, s3, s4, s27, _⟩
   refine cw_cond_t s27 (by decide) <| sR <| rM rfl s4 <| rw_q rfl (ev_assign (v := (i64 0)) rfl) <| rw_q rfl (ev_assign (v := (slc b10 0 0 0)) rfl) ?_
   refine rN (cw_ret (kThen_ret ?_))
   refine fnPost_ret [(i64 0), (slc b10 0 0 0)] ⟨rfl, rfl, trivial⟩ ?_
   have hz : halfR lB = (0, []) := halfR_0 (by have h := eq_of_beq hb2; omega)
   rw [hz]
   exact ⟨(slc b10 0 0 0), [], HL1, rfl, rfl, rfl, gL1, by simpa using hmL1⟩
 · -- false
   have hb2p := ne_of_beq_false hb2
   have hlp : 0 < lB.length := by have h := ne_of_beq_false hb2; omega
   have hx0 := encA_b hb (show 0 < lB.length by omega)
   refine cw_region <| rM rfl (v := vB) rfl <| rw_q (v := (i64 (lB.length : Int))) rfl (ev_len_rk (RdK.ofRest hb hmL1) uT40 rfl) <| rw_q rfl (ev_i64_eql (b := 0) rfl rfl) <| rw_q rfl (ev_move (v := (bl ((lB.length : Int) == 0))) rfl) <| rw_gyq (s := 14) rfl rfl hb2 rfl (ev_move (v := vB) rfl) ?_
   refine rw_gyq (s := 14) rfl rfl hb2 rfl (ev_indexAddr_rk (i := 0) (RdK.ofRest hb hmL1) uT40 ti83 rfl rfl oM sL) <| rw_gyq (s := 14) rfl rfl hb2 rfl (ev_load_rka (i := (0 : Int)) (RdK.ofRest hb hmL1) sL uT83 ti83 rfl rfl) <| rw_gy (s := 14) rfl rfl hb2 rfl (opR_call Try.func74 bd74 nm74 (args1 rfl) (c_rwhole (lB.getD 0 []) _ sL)) ?_
   rintro _ w4 ⟨rfl, _ew4⟩
   have hm4 := hmL1.ext _ew4
   refine rw_gyq (s := 14) rfl rfl hb2 rfl (ev_not rfl) <| rw_q rfl (ev_pick_fk rfl hb2 rfl) <| rw_q rfl (ev_move (v := (bl (!(wholeY (lB.getD 0 []))))) rfl) ?_
   rcases Bool.eq_false_or_eq_true (!(wholeY (lB.getD 0 []))) with hb6 | hb6
   · -- true
     have hb6n : (wholeY (lB.getD 0 [])) = false := by simpa using hb6
     refine rw_gn (s := 21) rfl rfl hb6 rfl <| rw_gn (s := 21) rfl rfl hb6 rfl <| rw_gn (s := 21) rfl rfl hb6 rfl <| rw_gn (s := 21) rfl rfl hb6 rfl <| rw_gn (s := 21) rfl rfl hb6 rfl <| rw_q rfl (ev_pick_tk rfl hb6 rfl) ?_
     refine rN ?_
     refine CW.abs (fun g => g 0 = vB ∧ g 2 = (i64 0) ∧ g 3 = (Value.slice none 0 0) ∧ g 4 = (slc b10 0 0 0) ∧ g 27 = (bl true) ∧ True) ⟨rfl, rfl, rfl, rfl, rfl, trivial⟩ ?_
     rintro fr7 ⟨s0, s2, s3, s4, s27, _⟩
     refine cw_cond_t s27 (by decide) <| sR <| rM rfl s4 <| rw_q rfl (ev_assign (v := (i64 0)) rfl) <| rw_q rfl (ev_assign (v := (slc b10 0 0 0)) rfl) ?_
     refine rN (cw_ret (kThen_ret ?_))
     refine fnPost_ret [(i64 0), (slc b10 0 0 0)] ⟨rfl, rfl, trivial⟩ ?_
     have hz : halfR lB = (0, []) := halfR_1 (by simpa using hb6)
     rw [hz]
     exact ⟨(slc b10 0 0 0), [], HL1, rfl, rfl, rfl, gL1, by simpa using hm4⟩
   · -- false
     have hb6n : (wholeY (lB.getD 0 [])) = true := by simpa using hb6
     refine rw_gyq (s := 21) rfl rfl hb6 rfl (ev_move (v := vB) rfl) <| rw_gyq (s := 21) rfl rfl hb6 rfl (ev_indexAddr_rk (i := 0) (RdK.ofRest hb hm4) uT40 ti83 rfl rfl oM sL) <| rw_gyq (s := 21) rfl rfl hb6 rfl (ev_load_rka (i := (0 : Int)) (RdK.ofRest hb hm4) sL uT83 ti83 rfl rfl) <| rw_gy (s := 21) rfl rfl hb6 rfl (opR_call Try.func75 bd75 nm75 (args1 rfl) (c_rgen (lB.getD 0 []) _ sL)) ?_
     rintro _ w8 ⟨rfl, _ew8⟩
     have hm8 := hm4.ext _ew8
     refine rw_gyq (s := 21) rfl rfl hb6 rfl (ev_i64_eql (b := 0) rfl rfl) <| rw_q rfl (ev_pick_fk rfl hb6 rfl) <| rN ?_
     refine CW.abs (fun g => g 0 = vB ∧ g 2 = (i64 0) ∧ g 3 = (Value.slice none 0 0) ∧ g 4 = (slc b10 0 0 0) ∧ g 27 = (bl ((gY (lB.getD 0 []) : Int) == 0)) ∧ True) ⟨rfl, rfl, rfl, rfl, rfl, trivial⟩ ?_
     rintro fr10 ⟨s0, s2, s3, s4, s27, _⟩
     refine cw_cond s27 (fun hc11 => ?_) (fun hc11 => ?_)
     · -- true
       have hc11p := eq_of_beq hc11
       refine sR <| rM rfl s4 <| rw_q rfl (ev_assign (v := (i64 0)) rfl) <| rw_q rfl (ev_assign (v := (slc b10 0 0 0)) rfl) ?_
       refine rN (cw_ret (kThen_ret ?_))
       refine fnPost_ret [(i64 0), (slc b10 0 0 0)] ⟨rfl, rfl, trivial⟩ ?_
       have hz : halfR lB = (0, []) := halfR_2 (by have h := eq_of_beq hc11; omega)
       rw [hz]
       exact ⟨(slc b10 0 0 0), [], HL1, rfl, rfl, rfl, gL1, by simpa using hm8⟩
     · -- false
       have hc11p := ne_of_beq_false hc11
       refine cw_skip (kThen_normal (sR ?_))
       refine rM rfl s0 <| rw_q rfl (ev_indexAddr_rk (i := 0) (RdK.ofRest hb hm8) uT40 ti83 rfl rfl oM sL) <| rw_q (v := (agg u8 (lB.getD 0 []))) rfl (ev_load_rka (i := (0 : Int)) (RdK.ofRest hb hm8) sL uT83 ti83 rfl rfl) <| rw_c rfl (opR_call Try.func75 bd75 nm75 (args1 rfl) (c_rgen (lB.getD 0 []) _ sL)) ?_
       rintro _ w12 ⟨rfl, _ew12⟩
       have hm12 := hm8.ext _ew12
       refine rw_q rfl (ev_assign (v := (i64 (gY (lB.getD 0 []) : Int))) rfl) ?_
       refine rN (sR ?_)
       refine rw_c rfl (or_buildSlice_cl u8 [] u8_one hm12 uT23 ti5 rfl (by simp [pairs]) rfl) ?_
       rintro _ w14 ⟨b33, rfl, _ew14, hm14⟩
       refine rw_q rfl (ev_assign (v := (slc b33 0 0 0)) rfl) ?_
       refine rN (sR ?_)
       refine rw_q rfl (ev_assign (v := (i64 0)) rfl) ?_
       refine rN (cw_seq (sR ?_))
       refine rw_q rfl (ev_assign (v := (i64 0)) rfl) ?_
       refine rN (cw_block ?_)
       refine cw_loop (fun g wv => ∃ (i : Nat) (vo : Value) (lo : List SlT) (Ho : List (Nat × Obj)) (outL : List (List (BitVec 8))) (vp : Value) (part : List (BitVec 8)) (Hq : List (Nat × Obj)) (pl : Nat), (i ≤ lB.length) ∧ (lo.map (·.2) = outL) ∧ (halfL (gY (lB.getD 0 [])) (lB.drop i) outL part pl = (halfL (gY (lB.getD 0 [])) lB [] [] 0)) ∧ (outL.length ≤ i) ∧ (pl ≤ i) ∧ (part.length ≤ 42 * pl) ∧ (GrowL mN 23 vo lo Ho) ∧ (Grow u8 5 vp part Hq) ∧ g 0 = vB ∧ g 2 = (i64 0) ∧ g 3 = (Value.slice none 0 0) ∧ g 4 = vo ∧ g 5 = (i64 (gY (lB.getD 0 []) : Int)) ∧ g 6 = vp ∧ g 7 = (i64 (pl : Int)) ∧ g 8 = (i64 (i : Int)) ∧ g 27 = (bl ((gY (lB.getD 0 []) : Int) == 0)) ∧ Mem wv (restOf w0) (Ho ++ (Hq ++ ([])))) (fun g wv => ((lB.length : Int) - RowKit.intOf (g 8)).toNat) ?_ ?_
       have hm15 := (Mem.pick [_] HL1 _ hm14)
       · exact ⟨0, (slc b10 0 0 0), [], HL1, [], (slc b33 0 0 0), [], [(b33, .cells (cl u8 ([])) 5 (0, 0))], 0, (Nat.zero_le _), rfl, rfl, (Nat.le_refl _), (Nat.le_refl _), (Nat.le_refl _), gL1, (Grow.of u8 5 b33 []), s0, s2, s3, s4, rfl, rfl, rfl, rfl, s27, (by
         have hT := hm15
         try simp only [List.append_assoc, List.cons_append, List.nil_append, List.append_nil] at hT ⊢
         exact hT)⟩
       · rintro fr16 w17 ⟨i, vo, lo, Ho, outL, vp, part, Hq, pl, hi, hlo, hF, hol, hpl, hpt, go, gp, s0, s2, s3, s4, s5, s6, s7, s8, s27, hm17⟩
         have z4 := s4
         have z6 := s6
         have z7 := s7
         have z8 := s8
         have hll := congrArg List.length hlo; rw [List.length_map] at hll
         refine cw_seq (sR ?_)
         refine rM rfl s8 <| rM rfl s0 <| rw_q (v := (i64 (lB.length : Int))) rfl (ev_len_rk (RdK.ofRest hb hm17) uT40 rfl) <| rw_q rfl (ev_i64_lss rfl rfl) <| rN ?_
         refine cw_cond rfl (fun hc18 => ?_) (fun hc18 => ?_)
         · -- true
           have hc18p := of_decide_eq_true hc18
           have hxi := encA_b hb (show i < lB.length by omega)
           have hnyi := nY_lt (lB.getD i []); have hpyi := pY_lt (lB.getD i [])
           refine cw_skip (kThen_normal (cw_seq (cw_block (sR ?_))))
           refine rM rfl s0 <| rM rfl s8 <| rw_q rfl (ev_indexAddr_rk (i := (i : Int)) (RdK.ofRest hb hm17) uT40 ti83 rfl rfl oM sL) <| rw_q (v := (agg u8 (lB.getD i []))) rfl (ev_load_rka (i := (i : Int)) (RdK.ofRest hb hm17) sL uT83 ti83 rfl rfl) <| rw_c rfl (or_alloc_agg hm17 ti83) ?_
           rintro _ w19 ⟨b9, rfl, _ew19, hm19⟩
           refine rw_n (or_store_agg (f := u8) (l := lB.getD i []) u8_one ti83 rfl rfl sL hm19.h0 (by rw [size_cl]; first | omega | (simp only [List.length_set, List.length_append, List.length_replicate, List.length_map, List.length_cons, List.length_nil]; omega) | (simp; done) | (simp; omega) | decide) rfl) ?_
           rintro _ w20 uq20
           have hm20 := hm19.upd0 uq20
           refine rN (cw_seq (sR ?_))
           refine rw_q (v := (agg u8 (lB.getD i []))) rfl (ev_loadA uT83 rfl ti83 rfl hm20.h0 (by rw [size_cl]; first | omega | (simp only [List.length_set, List.length_append, List.length_replicate, List.length_map, List.length_cons, List.length_nil]; omega) | (simp; done) | (simp; omega) | decide)) <| rw_c rfl (opR_call Try.func74 bd74 nm74 (args1 rfl) (c_rwhole (lB.getD i []) _ sL)) ?_
           rintro _ w21 ⟨rfl, _ew21⟩
           have hm21 := hm20.ext _ew21
           refine rw_q rfl (ev_not rfl) <| rw_q rfl (ev_move (v := (bl (!(wholeY (lB.getD i []))))) rfl) ?_
           rcases Bool.eq_false_or_eq_true (!(wholeY (lB.getD i []))) with hb23 | hb23
           · -- true
             have hb23n : (wholeY (lB.getD i [])) = false := by simpa using hb23
             refine rw_gn (s := 47) rfl rfl hb23 rfl <| rw_gn (s := 47) rfl rfl hb23 rfl <| rw_gn (s := 47) rfl rfl hb23 rfl <| rw_gn (s := 47) rfl rfl hb23 rfl <| rw_q rfl (ev_pick_tk rfl hb23 rfl) <| rw_q rfl (ev_move (v := (bl true)) rfl) ?_
             refine rw_gn (s := 53) rfl rfl rfl rfl <| rw_gn (s := 53) rfl rfl rfl rfl <| rw_gn (s := 53) rfl rfl rfl rfl <| rw_gn (s := 53) rfl rfl rfl rfl <| rw_gn (s := 53) rfl rfl rfl rfl <| rw_q rfl (ev_pick_t rfl rfl) ?_
             refine rw_q rfl (ev_move (v := (bl true)) rfl) <| rw_gn (s := 60) rfl rfl rfl rfl <| rw_gn (s := 60) rfl rfl rfl rfl <| rw_gn (s := 60) rfl rfl rfl rfl <| rw_gn (s := 60) rfl rfl rfl rfl <| rw_gn (s := 60) rfl rfl rfl rfl ?_
             refine rw_q rfl (ev_pick_t rfl rfl) <| rN ?_
             refine CW.abs (fun g => g 0 = vB ∧ g 2 = (i64 0) ∧ g 3 = (Value.slice none 0 0) ∧ g 4 = vo ∧ g 5 = (i64 (gY (lB.getD 0 []) : Int)) ∧ g 6 = vp ∧ g 7 = (i64 (pl : Int)) ∧ g 8 = (i64 (i : Int)) ∧ g 9 = (ptr b9 0) ∧ g 27 = (bl ((gY (lB.getD 0 []) : Int) == 0)) ∧ g 37 = (bl (decide ((i : Int) < (lB.length : Int)))) ∧ g 66 = (bl true) ∧ True) ⟨s0, s2, s3, s4, s5, s6, s7, s8, rfl, s27, rfl, rfl, trivial⟩ ?_
             rintro fr24 ⟨s0, s2, s3, s4, s5, s6, s7, s8, s9, s27, s37, s66, _⟩
             refine cw_cond_t s66 (by decide) <| cw_exit ?_
             refine kThen_exit (kBlk_miss rfl (kThen_exit (kBlk_hit ?_)))
             refine cw_seq (sR ?_)
             refine rM rfl s4 <| rw_q (v := (i64 (lo.length : Int))) rfl (ev_len_rd (RdL.row (GrowL.rd go (Mem.pick [_] Ho _ hm21) nN)) uT22 rfl) <| rw_q rfl (ev_i64_eql (b := 0) rfl rfl) <| rN ?_
             refine cw_cond rfl (fun hc25 => ?_) (fun hc25 => ?_)
             · -- true
               have hc25p := eq_of_beq hc25
               refine sR <| rM rfl s4 <| rw_q rfl (ev_assign (v := (i64 0)) rfl) <| rA rfl (v := vo) rfl ?_
               refine rN (cw_ret (kThen_ret ?_))
               refine fnPost_ret [(i64 0), vo] ⟨rfl, rfl, trivial⟩ ?_
               have hm26 := Mem.drop ([(b9, .cells (cl u8 (lB.getD i [])) 83 (0, 0))]) _ hm21
               have hm27 := Mem.drop Hq _ (Mem.pick Ho Hq _ hm26)
               have hfin := half_no oM (fun h => by have h1 := h.1; rw [show wholeY (lB.getD i []) = false by simpa using hb23] at h1; cases h1) hF
               have hz := halfR_3 oM (by simpa using hb6) (by have h := ne_of_beq_false hc11; omega) hfin
               have hll2 := congrArg List.length hlo; rw [List.length_map] at hll2
               have hl0 := eq_of_beq hc25
               rw [if_pos oM] at hz
               have ho0 : outL = [] := List.eq_nil_of_length_eq_zero oM
               rw [hz]
               exact ⟨vo, lo, Ho, rfl, hlo.trans ho0, (by show lo.length = 0; omega), go, by simpa using hm27⟩
             · -- false
               have hc25p := ne_of_beq_false hc25
               refine cw_skip (kThen_normal (sR ?_))
               refine rM rfl s5 <| rM rfl s4 <| rw_q rfl (ev_assign (v := (i64 (gY (lB.getD 0 []) : Int))) rfl) <| rA rfl (v := vo) rfl ?_
               refine rN (cw_ret ?_)
               refine fnPost_ret [(i64 (gY (lB.getD 0 []) : Int)), vo] ⟨rfl, rfl, trivial⟩ ?_
               have hm28 := Mem.drop ([(b9, .cells (cl u8 (lB.getD i [])) 83 (0, 0))]) _ hm21
               have hm29 := Mem.drop Hq _ (Mem.pick Ho Hq _ hm28)
               have hfin := half_no oM (fun h => by have h1 := h.1; rw [show wholeY (lB.getD i []) = false by simpa using hb23] at h1; cases h1) hF
               have hz := halfR_3 oM (by simpa using hb6) (by have h := ne_of_beq_false hc11; omega) hfin
               have hll2 := congrArg List.length hlo; rw [List.length_map] at hll2
               have hl0 := ne_of_beq_false hc25
               rw [if_neg oM] at hz
               rw [hz]
               exact ⟨vo, lo, Ho, rfl, hlo, hll2, go, by simpa using hm29⟩
           · -- false
             have hb23n : (wholeY (lB.getD i [])) = true := by simpa using hb23
             refine rw_gyq (s := 47) rfl rfl hb23 rfl (ev_loadA uT83 rfl ti83 rfl hm21.h0 (by rw [size_cl]; first | omega | (simp only [List.length_set, List.length_append, List.length_replicate, List.length_map, List.length_cons, List.length_nil]; omega) | (simp; done) | (simp; omega) | decide)) <| rw_gy (s := 47) rfl rfl hb23 rfl (opR_call Try.func75 bd75 nm75 (args1 rfl) (c_rgen (lB.getD i []) _ sL)) ?_
             rintro _ w30 ⟨rfl, _ew30⟩
             have hm30 := hm21.ext _ew30
             refine rw_gyq (s := 47) rfl rfl hb23 rfl (ev_move s5) <| rw_gyq (s := 47) rfl rfl hb23 rfl (ev_i64_neq rfl rfl) <| rw_q rfl (ev_pick_fk rfl hb23 rfl) <| rw_q rfl (ev_move (v := (bl ((gY (lB.getD i []) : Int) != (gY (lB.getD 0 []) : Int)))) rfl) ?_
             rcases Bool.eq_false_or_eq_true ((gY (lB.getD i []) : Int) != (gY (lB.getD 0 []) : Int)) with hb32 | hb32
             · -- true
               have hb32p := bne_iff_ne.1 hb32
               refine rw_gn (s := 53) rfl rfl hb32 rfl <| rw_gn (s := 53) rfl rfl hb32 rfl <| rw_gn (s := 53) rfl rfl hb32 rfl <| rw_gn (s := 53) rfl rfl hb32 rfl <| rw_gn (s := 53) rfl rfl hb32 rfl <| rw_q rfl (ev_pick_tk rfl hb32 rfl) ?_
               refine rw_q rfl (ev_move (v := (bl true)) rfl) <| rw_gn (s := 60) rfl rfl rfl rfl <| rw_gn (s := 60) rfl rfl rfl rfl <| rw_gn (s := 60) rfl rfl rfl rfl <| rw_gn (s := 60) rfl rfl rfl rfl <| rw_gn (s := 60) rfl rfl rfl rfl ?_
               refine rw_q rfl (ev_pick_t rfl rfl) <| rN ?_
               refine CW.abs (fun g => g 0 = vB ∧ g 2 = (i64 0) ∧ g 3 = (Value.slice none 0 0) ∧ g 4 = vo ∧ g 5 = (i64 (gY (lB.getD 0 []) : Int)) ∧ g 6 = vp ∧ g 7 = (i64 (pl : Int)) ∧ g 8 = (i64 (i : Int)) ∧ g 9 = (ptr b9 0) ∧ g 27 = (bl ((gY (lB.getD 0 []) : Int) == 0)) ∧ g 37 = (bl (decide ((i : Int) < (lB.length : Int)))) ∧ g 66 = (bl true) ∧ True) ⟨s0, s2, s3, s4, s5, s6, s7, s8, rfl, s27, rfl, rfl, trivial⟩ ?_
               rintro fr33 ⟨s0, s2, s3, s4, s5, s6, s7, s8, s9, s27, s37, s66, _⟩
               refine cw_cond_t s66 (by decide) <| cw_exit ?_
               refine kThen_exit (kBlk_miss rfl (kThen_exit (kBlk_hit ?_)))
               refine cw_seq (sR ?_)
               refine rM rfl s4 <| rw_q (v := (i64 (lo.length : Int))) rfl (ev_len_rd (RdL.row (GrowL.rd go (Mem.pick [_] Ho _ hm30) nN)) uT22 rfl) <| rw_q rfl (ev_i64_eql (b := 0) rfl rfl) <| rN ?_
               refine cw_cond rfl (fun hc34 => ?_) (fun hc34 => ?_)
               · -- true
                 have hc34p := eq_of_beq hc34
                 refine sR <| rM rfl s4 <| rw_q rfl (ev_assign (v := (i64 0)) rfl) <| rA rfl (v := vo) rfl ?_
                 refine rN (cw_ret (kThen_ret ?_))
                 refine fnPost_ret [(i64 0), vo] ⟨rfl, rfl, trivial⟩ ?_
                 have hm35 := Mem.drop ([(b9, .cells (cl u8 (lB.getD i [])) 83 (0, 0))]) _ hm30
                 have hm36 := Mem.drop Hq _ (Mem.pick Ho Hq _ hm35)
                 have hfin := half_no oM (fun h => by have h1 := h.2.1; have h2 := bne_iff_ne.1 hb32; omega) hF
                 have hz := halfR_3 oM (by simpa using hb6) (by have h := ne_of_beq_false hc11; omega) hfin
                 have hll2 := congrArg List.length hlo; rw [List.length_map] at hll2
                 have hl0 := eq_of_beq hc34
                 rw [if_pos oM] at hz
                 have ho0 : outL = [] := List.eq_nil_of_length_eq_zero oM
                 rw [hz]
                 exact ⟨vo, lo, Ho, rfl, hlo.trans ho0, (by show lo.length = 0; omega), go, by simpa using hm36⟩
               · -- false
                 have hc34p := ne_of_beq_false hc34
                 refine cw_skip (kThen_normal (sR ?_))
                 refine rM rfl s5 <| rM rfl s4 <| rw_q rfl (ev_assign (v := (i64 (gY (lB.getD 0 []) : Int))) rfl) <| rA rfl (v := vo) rfl ?_
                 refine rN (cw_ret ?_)
                 refine fnPost_ret [(i64 (gY (lB.getD 0 []) : Int)), vo] ⟨rfl, rfl, trivial⟩ ?_
                 have hm37 := Mem.drop ([(b9, .cells (cl u8 (lB.getD i [])) 83 (0, 0))]) _ hm30
                 have hm38 := Mem.drop Hq _ (Mem.pick Ho Hq _ hm37)
                 have hfin := half_no oM (fun h => by have h1 := h.2.1; have h2 := bne_iff_ne.1 hb32; omega) hF
                 have hz := halfR_3 oM (by simpa using hb6) (by have h := ne_of_beq_false hc11; omega) hfin
                 have hll2 := congrArg List.length hlo; rw [List.length_map] at hll2
                 have hl0 := ne_of_beq_false hc34
                 rw [if_neg oM] at hz
                 rw [hz]
                 exact ⟨vo, lo, Ho, rfl, hlo, hll2, go, by simpa using hm38⟩
             · -- false
               have hb32p := eq_of_bne_false hb32
               refine rw_gyq (s := 53) rfl rfl hb32 rfl (ev_loadA uT83 rfl ti83 rfl hm30.h0 (by rw [size_cl]; first | omega | (simp only [List.length_set, List.length_append, List.length_replicate, List.length_map, List.length_cons, List.length_nil]; omega) | (simp; done) | (simp; omega) | decide)) <| rw_gy (s := 53) rfl rfl hb32 rfl (opR_call Try.func76 bd76 nm76 (args1 rfl) (c_rrecord (lB.getD i []) _ sL)) ?_
               rintro _ w39 ⟨rfl, _ew39⟩
               have hm39 := hm30.ext _ew39
               refine rw_gyq (s := 53) rfl rfl hb32 rfl (ev_move s4) <| rw_gyq (s := 53) rfl rfl hb32 rfl (ev_len_rd (RdL.row (GrowL.rd go (Mem.pick [_] Ho _ hm39) nN)) uT22 rfl) <| rw_gyq (s := 53) rfl rfl hb32 rfl (ev_i64_neq rfl rfl) <| rw_q rfl (ev_pick_fk rfl hb32 rfl) <| rw_q rfl (ev_move (v := (bl ((rY (lB.getD i []) : Int) != (lo.length : Int)))) rfl) ?_
               rcases Bool.eq_false_or_eq_true ((rY (lB.getD i []) : Int) != (lo.length : Int)) with hb41 | hb41
               · -- true
                 have hb41p := bne_iff_ne.1 hb41
                 refine rw_gn (s := 60) rfl rfl hb41 rfl <| rw_gn (s := 60) rfl rfl hb41 rfl <| rw_gn (s := 60) rfl rfl hb41 rfl <| rw_gn (s := 60) rfl rfl hb41 rfl <| rw_gn (s := 60) rfl rfl hb41 rfl <| rw_q rfl (ev_pick_tk rfl hb41 rfl) ?_
                 refine rN ?_
                 refine CW.abs (fun g => g 0 = vB ∧ g 2 = (i64 0) ∧ g 3 = (Value.slice none 0 0) ∧ g 4 = vo ∧ g 5 = (i64 (gY (lB.getD 0 []) : Int)) ∧ g 6 = vp ∧ g 7 = (i64 (pl : Int)) ∧ g 8 = (i64 (i : Int)) ∧ g 9 = (ptr b9 0) ∧ g 27 = (bl ((gY (lB.getD 0 []) : Int) == 0)) ∧ g 37 = (bl (decide ((i : Int) < (lB.length : Int)))) ∧ g 66 = (bl true) ∧ True) ⟨s0, s2, s3, s4, s5, s6, s7, s8, rfl, s27, rfl, rfl, trivial⟩ ?_
                 rintro fr42 ⟨s0, s2, s3, s4, s5, s6, s7, s8, s9, s27, s37, s66, _⟩
                 refine cw_cond_t s66 (by decide) <| cw_exit ?_
                 refine kThen_exit (kBlk_miss rfl (kThen_exit (kBlk_hit ?_)))
                 refine cw_seq (sR ?_)
                 refine rM rfl s4 <| rw_q (v := (i64 (lo.length : Int))) rfl (ev_len_rd (RdL.row (GrowL.rd go (Mem.pick [_] Ho _ hm39) nN)) uT22 rfl) <| rw_q rfl (ev_i64_eql (b := 0) rfl rfl) <| rN ?_
                 refine cw_cond rfl (fun hc43 => ?_) (fun hc43 => ?_)
                 · -- true
                   have hc43p := eq_of_beq hc43
                   refine sR <| rM rfl s4 <| rw_q rfl (ev_assign (v := (i64 0)) rfl) <| rA rfl (v := vo) rfl ?_
                   refine rN (cw_ret (kThen_ret ?_))
                   refine fnPost_ret [(i64 0), vo] ⟨rfl, rfl, trivial⟩ ?_
                   have hm44 := Mem.drop ([(b9, .cells (cl u8 (lB.getD i [])) 83 (0, 0))]) _ hm39
                   have hm45 := Mem.drop Hq _ (Mem.pick Ho Hq _ hm44)
                   have hfin := half_no oM (fun h => by have h1 := h.2.2.1; have h2 := bne_iff_ne.1 hb41; omega) hF
                   have hz := halfR_3 oM (by simpa using hb6) (by have h := ne_of_beq_false hc11; omega) hfin
                   have hll2 := congrArg List.length hlo; rw [List.length_map] at hll2
                   have hl0 := eq_of_beq hc43
                   rw [if_pos oM] at hz
                   have ho0 : outL = [] := List.eq_nil_of_length_eq_zero oM
                   rw [hz]
                   exact ⟨vo, lo, Ho, rfl, hlo.trans ho0, (by show lo.length = 0; omega), go, by simpa using hm45⟩
                 · -- false
                   have hc43p := ne_of_beq_false hc43
                   refine cw_skip (kThen_normal (sR ?_))
                   refine rM rfl s5 <| rM rfl s4 <| rw_q rfl (ev_assign (v := (i64 (gY (lB.getD 0 []) : Int))) rfl) <| rA rfl (v := vo) rfl ?_
                   refine rN (cw_ret ?_)
                   refine fnPost_ret [(i64 (gY (lB.getD 0 []) : Int)), vo] ⟨rfl, rfl, trivial⟩ ?_
                   have hm46 := Mem.drop ([(b9, .cells (cl u8 (lB.getD i [])) 83 (0, 0))]) _ hm39
                   have hm47 := Mem.drop Hq _ (Mem.pick Ho Hq _ hm46)
                   have hfin := half_no oM (fun h => by have h1 := h.2.2.1; have h2 := bne_iff_ne.1 hb41; omega) hF
                   have hz := halfR_3 oM (by simpa using hb6) (by have h := ne_of_beq_false hc11; omega) hfin
                   have hll2 := congrArg List.length hlo; rw [List.length_map] at hll2
                   have hl0 := ne_of_beq_false hc43
                   rw [if_neg oM] at hz
                   rw [hz]
                   exact ⟨vo, lo, Ho, rfl, hlo, hll2, go, by simpa using hm47⟩
               · -- false
                 have hb41p := eq_of_bne_false hb41
                 refine rw_gyq (s := 60) rfl rfl hb41 rfl (ev_loadA uT83 rfl ti83 rfl hm39.h0 (by rw [size_cl]; first | omega | (simp only [List.length_set, List.length_append, List.length_replicate, List.length_map, List.length_cons, List.length_nil]; omega) | (simp; done) | (simp; omega) | decide)) <| rw_gy (s := 60) rfl rfl hb41 rfl (opR_call Try.func77 bd77 nm77 (args1 rfl) (c_rplace (lB.getD i []) _ sL)) ?_
                 rintro _ w48 ⟨rfl, _ew48⟩
                 have hm48 := hm39.ext _ew48
                 refine rw_gyq (s := 60) rfl rfl hb41 rfl (ev_i64_rem (b := 32768) rfl rfl oM oM oM) <| rw_gyq (s := 60) rfl rfl hb41 rfl (ev_move s7) <| rw_gyq (s := 60) rfl rfl hb41 rfl (ev_i64_neq rfl rfl) <| rw_q rfl (ev_pick_fk rfl hb41 rfl) <| rN ?_
                 refine CW.abs (fun g => g 0 = vB ∧ g 2 = (i64 0) ∧ g 3 = (Value.slice none 0 0) ∧ g 4 = vo ∧ g 5 = (i64 (gY (lB.getD 0 []) : Int)) ∧ g 6 = vp ∧ g 7 = (i64 (pl : Int)) ∧ g 8 = (i64 (i : Int)) ∧ g 9 = (ptr b9 0) ∧ g 27 = (bl ((gY (lB.getD 0 []) : Int) == 0)) ∧ g 37 = (bl (decide ((i : Int) < (lB.length : Int)))) ∧ g 66 = (bl (((pY (lB.getD i []) : Int) % 32768) != (pl : Int))) ∧ True) ⟨s0, s2, s3, s4, s5, s6, s7, s8, rfl, s27, rfl, rfl, trivial⟩ ?_
                 rintro fr50 ⟨s0, s2, s3, s4, s5, s6, s7, s8, s9, s27, s37, s66, _⟩
                 refine cw_cond s66 (fun hc51 => ?_) (fun hc51 => ?_)
                 · -- true
                   have hc51p := bne_iff_ne.1 hc51
                   refine cw_exit ?_
                   refine kThen_exit (kBlk_miss rfl (kThen_exit (kBlk_hit ?_)))
                   refine cw_seq (sR ?_)
                   refine rM rfl s4 <| rw_q (v := (i64 (lo.length : Int))) rfl (ev_len_rd (RdL.row (GrowL.rd go (Mem.pick [_] Ho _ hm48) nN)) uT22 rfl) <| rw_q rfl (ev_i64_eql (b := 0) rfl rfl) <| rN ?_
                   refine cw_cond rfl (fun hc52 => ?_) (fun hc52 => ?_)
                   · -- true
                     have hc52p := eq_of_beq hc52
                     refine sR <| rM rfl s4 <| rw_q rfl (ev_assign (v := (i64 0)) rfl) <| rA rfl (v := vo) rfl ?_
                     refine rN (cw_ret (kThen_ret ?_))
                     refine fnPost_ret [(i64 0), vo] ⟨rfl, rfl, trivial⟩ ?_
                     have hm53 := Mem.drop ([(b9, .cells (cl u8 (lB.getD i [])) 83 (0, 0))]) _ hm48
                     have hm54 := Mem.drop Hq _ (Mem.pick Ho Hq _ hm53)
                     have hfin := half_no oM (fun h => by have h1 := h.2.2.2; have h2 := bne_iff_ne.1 hc51; omega) hF
                     have hz := halfR_3 oM (by simpa using hb6) (by have h := ne_of_beq_false hc11; omega) hfin
                     have hll2 := congrArg List.length hlo; rw [List.length_map] at hll2
                     have hl0 := eq_of_beq hc52
                     rw [if_pos oM] at hz
                     have ho0 : outL = [] := List.eq_nil_of_length_eq_zero oM
                     rw [hz]
                     exact ⟨vo, lo, Ho, rfl, hlo.trans ho0, (by show lo.length = 0; omega), go, by simpa using hm54⟩
                   · -- false
                     have hc52p := ne_of_beq_false hc52
                     refine cw_skip (kThen_normal (sR ?_))
                     refine rM rfl s5 <| rM rfl s4 <| rw_q rfl (ev_assign (v := (i64 (gY (lB.getD 0 []) : Int))) rfl) <| rA rfl (v := vo) rfl ?_
                     refine rN (cw_ret ?_)
                     refine fnPost_ret [(i64 (gY (lB.getD 0 []) : Int)), vo] ⟨rfl, rfl, trivial⟩ ?_
                     have hm55 := Mem.drop ([(b9, .cells (cl u8 (lB.getD i [])) 83 (0, 0))]) _ hm48
                     have hm56 := Mem.drop Hq _ (Mem.pick Ho Hq _ hm55)
                     have hfin := half_no oM (fun h => by have h1 := h.2.2.2; have h2 := bne_iff_ne.1 hc51; omega) hF
                     have hz := halfR_3 oM (by simpa using hb6) (by have h := ne_of_beq_false hc11; omega) hfin
                     have hll2 := congrArg List.length hlo; rw [List.length_map] at hll2
                     have hl0 := ne_of_beq_false hc52
                     rw [if_neg oM] at hz
                     rw [hz]
                     exact ⟨vo, lo, Ho, rfl, hlo, hll2, go, by simpa using hm56⟩
                 · -- false
                   have hc51p := eq_of_bne_false hc51
                   have hwi : wholeY (lB.getD i []) = true := by simpa using hb23
                   have hok : OkY (lB.getD i []) (gY (lB.getD 0 [])) outL.length pl := ⟨hwi, by have h := eq_of_bne_false hb32; omega, by have h := eq_of_bne_false hb41; omega, by have h := eq_of_bne_false hc51; omega⟩
                   have hdl := dY_len hwi
                   have hwn := whole_n hwi
                   have hnd := nY_def (x := lB.getD i [])
                   have hdq := congrArg List.length (dY_eq (x := lB.getD i []))
                   refine cw_skip (kThen_normal (sR ?_))
                   refine rM rfl s6 <| rw_q rfl (ev_slice_sla (i := 10) (j := 12) uT83 ti5 s9 (optI_some (k := .i64) (i := 10) rfl) (optI_some (k := .i64) (i := 12) rfl) oM sL sL) <| rw_c rfl (opR_call Try.func56 bd56 nm56 (args1 rfl) (c_rnumber (sla b9 0 1 10 12 64) (((lB.getD i []).drop 10).take 2) _ (Rd.cast (l' := ((lB.getD i []).drop 10).take 2) (Rd.sla hm48.h0 sL oM sL sL) rfl) sL)) ?_
                   rintro _ w57 ⟨rfl, _ew57⟩
                   have hm57 := hm48.ext _ew57
                   refine rw_q rfl (ev_i64_add (a := 12) rfl rfl oM oM) <| rw_q rfl (ev_slice_sla (i := 12) (j := 12 + (natB (((lB.getD i []).drop 10).take 2) : Int)) uT83 ti5 s9 (optI_some (k := .i64) (i := 12) rfl) (optI_some (k := .i64) (i := 12 + (natB (((lB.getD i []).drop 10).take 2) : Int)) rfl) oM sL sL) <| rw_c rfl (or_append (f := u8) (Hs := Hq) (H := [(b9, .cells (cl u8 (lB.getD i [])) 83 (0, 0))] ++ (Ho ++ ([]))) (Mem.pick2 [_] Ho Hq _ hm57) gp rfl rfl (Rd.cast (l' := ((lB.getD i []).drop (12 : Int).toNat).take ((12 + (natB (((lB.getD i []).drop 10).take 2) : Int) : Int).toNat - (12 : Int).toNat)) (Rd.sla hm57.h0 sL oM sL sL) rfl) uT23 uT23 ti5 rfl u8_one sL sL) ?_
                   rintro sv59 w59 ⟨Hs59, hm59, g59⟩
                   replace g59 : Grow u8 5 sv59 (part ++ (((lB.getD i []).drop (12 : Int).toNat).take ((12 + (natB (((lB.getD i []).drop 10).take 2) : Int) : Int).toNat - (12 : Int).toNat))) Hs59 := g59
                   refine rA rfl (v := sv59) rfl ?_
                   refine rN (sR ?_)
                   refine rM rfl s7 <| rw_q rfl (ev_i64_add (b := 1) rfl rfl oM oM) <| rw_q rfl (ev_assign (v := (i64 ((pl : Int) + 1))) rfl) ?_
                   refine rN (sR ?_)
                   refine rw_q (v := (agg u8 (lB.getD i []))) rfl (ev_loadA uT83 rfl ti83 s9 ((Mem.pick Hs59 [_] _ hm59)).h0 (by rw [size_cl]; first | omega | (simp only [List.length_set, List.length_append, List.length_replicate, List.length_map, List.length_cons, List.length_nil]; omega) | (simp; done) | (simp; omega) | decide)) <| rw_c rfl (opR_call Try.func77 bd77 nm77 (args1 rfl) (c_rplace (lB.getD i []) _ sL)) ?_
                   rintro _ w60 ⟨rfl, _ew60⟩
                   have hm60 := hm59.ext _ew60
                   refine rw_q rfl (ev_i64_geq (b := 32768) rfl rfl) <| rN ?_
                   refine cw_cond rfl (fun hc62 => ?_) (fun hc62 => ?_)
                   · -- true
                     have hc62p := of_decide_eq_true hc62
                     refine sR <| rM rfl s4 <| rM rfl (v := sv59) rfl <| rw_c rfl (or_buildSlice_ones [sv59] (List.all_eq_true.1 (one_cons g59.one one_nil)) hm60 uT22 ti23 rfl rfl rfl) ?_
                     rintro _ w63 ⟨b80, rfl, _ew63, hm63⟩
                     have hm63 : Mem w63 (restOf w0) ([(b80, .cells #[sv59] 23 (0, 0))] ++ (Hs59 ++ ([(b9, .cells (cl u8 (lB.getD i [])) 83 (0, 0))] ++ (Ho ++ ([]))))) := hm63
                     refine rw_c rfl (or_appendL (Hs := Ho) (Hv := Hs59) (H := [(b80, .cells #[sv59] 23 (0, 0)), (b9, .cells (cl u8 (lB.getD i [])) 83 (0, 0))]) (u0 := sv59) (l0 := part ++ (((lB.getD i []).drop (12 : Int).toNat).take ((12 + (natB (((lB.getD i []).drop 10).take 2) : Int) : Int).toNat - (12 : Int).toNat))) (show Mem _ _ (Ho ++ (Hs59 ++ [(b80, .cells #[sv59] 23 (0, 0)), (b9, .cells (cl u8 (lB.getD i [])) 83 (0, 0))])) from (Mem.pick2 Hs59 [_, _] Ho _ (Mem.pick [_] Hs59 _ hm63))) go rfl rfl (Rd.oneS (l := part ++ (((lB.getD i []).drop (12 : Int).toNat).take ((12 + (natB (((lB.getD i []).drop 10).take 2) : Int) : Int).toNat - (12 : Int).toNat))) hm63.h0 (Grow.toSl (part ++ (((lB.getD i []).drop (12 : Int).toNat).take ((12 + (natB (((lB.getD i []).drop 10).take 2) : Int) : Int).toNat - (12 : Int).toNat))) g59)) (Grow.toSl (part ++ (((lB.getD i []).drop (12 : Int).toNat).take ((12 + (natB (((lB.getD i []).drop 10).take 2) : Int) : Int).toNat - (12 : Int).toNat))) g59) (el_grow g59) uT22 uT22 ti23 rfl sL sL) ?_
                     rintro sv64 w64 ⟨ls64, Hs64, hM64, hL64, hm64, g64⟩
                     refine rA rfl (v := sv64) rfl <| rN ?_
                     have hm65 := Mem.drop ([(b80, .cells #[sv59] 23 (0, 0))]) _ (Mem.pick Hs64 [_] _ hm64)
                     refine CW.abs (fun g => g 0 = vB ∧ g 2 = (i64 0) ∧ g 3 = (Value.slice none 0 0) ∧ g 4 = sv64 ∧ g 5 = (i64 (gY (lB.getD 0 []) : Int)) ∧ g 6 = sv59 ∧ g 7 = (i64 ((pl : Int) + 1)) ∧ g 8 = (i64 (i : Int)) ∧ g 9 = (ptr b9 0) ∧ g 27 = (bl ((gY (lB.getD 0 []) : Int) == 0)) ∧ g 37 = (bl (decide ((i : Int) < (lB.length : Int)))) ∧ g 66 = (bl (((pY (lB.getD i []) : Int) % 32768) != (pl : Int))) ∧ g 77 = (bl (decide (32768 ≤ (pY (lB.getD i []) : Int)))) ∧ True) ⟨s0, s2, s3, rfl, s5, rfl, rfl, s8, s9, s27, s37, s66, rfl, trivial⟩ ?_
                     rintro fr66 ⟨s0, s2, s3, s4, s5, s6, s7, s8, s9, s27, s37, s66, s77, _⟩
                     refine sR <| rw_c rfl (or_buildSlice_cl u8 [] u8_one hm65 uT23 ti5 rfl (by simp [pairs]) rfl) ?_
                     rintro _ w67 ⟨b82, rfl, _ew67, hm67⟩
                     refine rw_q rfl (ev_assign (v := (slc b82 0 0 0)) rfl) ?_
                     refine rN (cw_region ?_)
                     refine rw_q rfl (ev_assign (v := (i64 0)) rfl) ?_
                     refine rw_nil (kBlk_normal (cw_region ?_))
                     refine rM rfl s8 <| rw_q rfl (ev_i64_add (b := 1) rfl rfl oM oM) <| rw_q rfl (ev_assign (v := (i64 ((i : Int) + 1))) rfl) <| rN ?_
                     have hm68 := Mem.drop ([(b9, .cells (cl u8 (lB.getD i [])) 83 (0, 0))]) _ (Mem.pick2 [_] Hs64 [_] _ hm67)
                     have hm69 := (Mem.pick [_] Hs64 _ hm68)
                     exact ⟨⟨(i + 1), sv64, ls64, Hs64, (outL ++ [part ++ dY (lB.getD i [])]), (slc b82 0 0 0), [], [(b82, .cells (cl u8 ([])) 5 (0, 0))], 0, oM, (by rw [hM64, hlo, dY_eq]), (half_last oM hok (by have h := of_decide_eq_true hc62; omega) hF), (by simp; omega), (Nat.zero_le _), (Nat.zero_le _), g64, (Grow.of u8 5 b82 []), s0, s2, s3, s4, s5, rfl, rfl, (Eq.trans rfl (congrArg i64 oM)), s27, (by
                       have hT := hm69
                       try simp only [List.append_assoc, List.cons_append, List.nil_append, List.append_nil] at hT ⊢
                       exact hT)⟩, meas (rfl) z8 oM oM⟩
                   · -- false
                     have hc62p := of_decide_eq_false hc62
                     refine cw_skip (kBlk_normal (cw_region ?_))
                     refine rM rfl s8 <| rw_q rfl (ev_i64_add (b := 1) rfl rfl oM oM) <| rw_q rfl (ev_assign (v := (i64 ((i : Int) + 1))) rfl) <| rN ?_
                     have hm70 := Mem.drop ([(b9, .cells (cl u8 (lB.getD i [])) 83 (0, 0))]) _ (Mem.pick Hs59 [_] _ hm60)
                     have hm71 := (Mem.pick Hs59 Ho _ hm70)
                     exact ⟨⟨(i + 1), vo, lo, Ho, outL, sv59, (part ++ dY (lB.getD i [])), Hs59, (pl + 1), oM, hlo, (half_more oM hok (by have h := of_decide_eq_false hc62; omega) hF), oM, oM, (by rw [List.length_append]; omega), go, (Grow.cast g59 (by rw [dY_eq])), s0, s2, s3, s4, s5, rfl, rfl, (Eq.trans rfl (congrArg i64 oM)), s27, (by
                       have hT := hm71
                       try simp only [List.append_assoc, List.cons_append, List.nil_append, List.append_nil] at hT ⊢
                       exact hT)⟩, meas (rfl) z8 oM oM⟩
         · -- false
           have hc18p := of_decide_eq_false hc18
           refine cw_exit ?_
           refine kThen_exit (kThen_exit (kBlk_hit ?_))
           refine cw_seq (sR ?_)
           refine rM rfl s4 <| rw_q (v := (i64 (lo.length : Int))) rfl (ev_len_rd (RdL.row (GrowL.rd go hm17 nN)) uT22 rfl) <| rw_q rfl (ev_i64_eql (b := 0) rfl rfl) <| rN ?_
           refine cw_cond rfl (fun hc72 => ?_) (fun hc72 => ?_)
           · -- true
             have hc72p := eq_of_beq hc72
             refine sR <| rM rfl s4 <| rw_q rfl (ev_assign (v := (i64 0)) rfl) <| rA rfl (v := vo) rfl ?_
             refine rN (cw_ret (kThen_ret ?_))
             refine fnPost_ret [(i64 0), vo] ⟨rfl, rfl, trivial⟩ ?_
             have hm73 := Mem.drop Hq _ (Mem.pick Ho Hq _ hm17)
             have hfin := half_end oM hF
             have hz := halfR_3 oM (by simpa using hb6) (by have h := ne_of_beq_false hc11; omega) hfin
             have hll2 := congrArg List.length hlo; rw [List.length_map] at hll2
             have hl0 := eq_of_beq hc72
             rw [if_pos oM] at hz
             have ho0 : outL = [] := List.eq_nil_of_length_eq_zero oM
             rw [hz]
             exact ⟨vo, lo, Ho, rfl, hlo.trans ho0, (by show lo.length = 0; omega), go, by simpa using hm73⟩
           · -- false
             have hc72p := ne_of_beq_false hc72
             refine cw_skip (kThen_normal (sR ?_))
             refine rM rfl s5 <| rM rfl s4 <| rw_q rfl (ev_assign (v := (i64 (gY (lB.getD 0 []) : Int))) rfl) <| rA rfl (v := vo) rfl ?_
             refine rN (cw_ret ?_)
             refine fnPost_ret [(i64 (gY (lB.getD 0 []) : Int)), vo] ⟨rfl, rfl, trivial⟩ ?_
             have hm74 := Mem.drop Hq _ (Mem.pick Ho Hq _ hm17)
             have hfin := half_end oM hF
             have hz := halfR_3 oM (by simpa using hb6) (by have h := ne_of_beq_false hc11; omega) hfin
             have hll2 := congrArg List.length hlo; rw [List.length_map] at hll2
             have hl0 := ne_of_beq_false hc72
             rw [if_neg oM] at hz
             rw [hz]
             exact ⟨vo, lo, Ho, rfl, hlo, hll2, go, by simpa using hm74⟩

set_option maxHeartbeats 2000000 in
theorem c_rdisk (vB : Value) (lB : List (List (BitVec 8))) (w0 : World)  (hb : RdK (blks w0) (encA u8) 64 vB lB) (hn : lB.length ≤ 1000) : CallsR Try.prog 28 #[vB] w0 (fun r w1 => ∃ r1 ls Hs, r = .tuple #[bl (diskR lB).1, i64 ((diskR lB).2.1 : Int), r1] ∧ ls.map (·.2) = (diskR lB).2.2 ∧ ls.length = (diskR lB).2.2.length ∧ GrowL mN 23 r1 ls Hs ∧ Mem w1 (restOf w0) Hs) := by
 refine callsR_of_cw (args := [vB]) Try.func28 rfl Try.ntmps28 Try.results28 rfl ?_
 have hm0 : Mem w0 (restOf w0) [] := Mem.of_world w0
 refine sR <| rw_q rfl (ev_assign (v := (bl false)) rfl) <| rw_q rfl (ev_assign (v := (i64 0)) rfl) <| rw_q rfl (ev_assign (v := (Value.slice none 0 0)) rfl) ?_
 refine rN (sR ?_)
 refine rM rfl (v := vB) rfl <| rw_q (v := (i64 (lB.length : Int))) rfl (ev_len_rk (RdK.ofRest hb hm0) uT40 rfl) <| rw_q rfl (ev_i64_quo (b := 2) rfl rfl oM oM oM) <| rw_q rfl (ev_assign (v := (i64 ((lB.length : Int) / 2))) rfl) ?_
 refine rN (sR ?_)
 refine rM rfl (v := vB) rfl <| rw_q rfl (ev_move (v := (i64 ((lB.length : Int) / 2))) rfl) <| rw_q rfl (ev_slice_rk (i := 0) (j := (lB.length : Int) / 2) (RdK.ofRest hb hm0) uT40 ti83 rfl (optI_none _ _) (optI_some (k := .i64) (i := (lB.length : Int) / 2) rfl) oM sL sL) <| rw_c rfl (opR_call Try.func57 bd57 nm57 (args1 rfl) (c_rhalf (subvK vB 0 ((lB.length : Int) / 2) 64) ((lB.drop (0 : Int).toNat).take (((lB.length : Int) / 2 : Int).toNat - (0 : Int).toNat)) _ (RdK.cast (l' := ((lB.drop (0 : Int).toNat).take (((lB.length : Int) / 2 : Int).toNat - (0 : Int).toNat))) (RdK.sub (i := 0) (j := (lB.length : Int) / 2) (RdK.ofRest hb hm0) oM sL sL) rfl) sL)) ?_
 rintro _ w1 ⟨r1q2, lsq2, Hsq2, rfl, hMq2, hLq2, grq2, k_w1⟩
 have hm1 : Mem w1 (restOf w0) (Hsq2 ++ ([])) := Mem.new (H := []) (H' := Hsq2) hm0 k_w1
 refine rM rfl rfl <| rw_q (v := (i64 ((halfR ((lB.drop (0 : Int).toNat).take (((lB.length : Int) / 2 : Int).toNat - (0 : Int).toNat))).1 : Int))) rfl (ev_extract rfl rfl) <| rw_q (v := r1q2) rfl (ev_extract rfl rfl) <| rA rfl rfl <| rA rfl (v := r1q2) rfl ?_
 refine rN (sR ?_)
 refine rM rfl (v := vB) rfl <| rw_q rfl (ev_move (v := (i64 ((lB.length : Int) / 2))) rfl) <| rw_q rfl (ev_move (v := (i64 ((lB.length : Int) / 2))) rfl) <| rw_q rfl (ev_i64_mul (a := 2) rfl rfl oM oM) <| rw_q rfl (ev_slice_rk (i := (lB.length : Int) / 2) (j := 2 * ((lB.length : Int) / 2)) (RdK.ofRest hb hm1) uT40 ti83 rfl (optI_some (k := .i64) (i := (lB.length : Int) / 2) rfl) (optI_some (k := .i64) (i := 2 * ((lB.length : Int) / 2)) rfl) oM sL sL) <| rw_c rfl (opR_call Try.func57 bd57 nm57 (args1 rfl) (c_rhalf (subvK vB ((lB.length : Int) / 2) (2 * ((lB.length : Int) / 2)) 64) ((lB.drop ((lB.length : Int) / 2 : Int).toNat).take ((2 * ((lB.length : Int) / 2) : Int).toNat - ((lB.length : Int) / 2 : Int).toNat)) _ (RdK.cast (l' := ((lB.drop ((lB.length : Int) / 2 : Int).toNat).take ((2 * ((lB.length : Int) / 2) : Int).toNat - ((lB.length : Int) / 2 : Int).toNat))) (RdK.sub (i := (lB.length : Int) / 2) (j := 2 * ((lB.length : Int) / 2)) (RdK.ofRest hb hm1) oM sL sL) rfl) sL)) ?_
 rintro _ w3 ⟨r1q4, lsq4, Hsq4, rfl, hMq4, hLq4, grq4, k_w3⟩
 have hm3 : Mem w3 (restOf w0) (Hsq4 ++ (Hsq2 ++ ([]))) := Mem.new (H := Hsq2 ++ ([])) (H' := Hsq4) hm1 k_w3
 refine rM rfl rfl <| rw_q (v := (i64 ((halfR ((lB.drop ((lB.length : Int) / 2 : Int).toNat).take ((2 * ((lB.length : Int) / 2) : Int).toNat - ((lB.length : Int) / 2 : Int).toNat))).1 : Int))) rfl (ev_extract rfl rfl) <| rw_q (v := r1q4) rfl (ev_extract rfl rfl) <| rA rfl rfl <| rA rfl (v := r1q4) rfl <| rN ?_
 refine CW.abs (fun g => g 0 = vB ∧ g 2 = (bl false) ∧ g 3 = (i64 0) ∧ g 4 = (Value.slice none 0 0) ∧ g 5 = (i64 ((lB.length : Int) / 2)) ∧ g 6 = (i64 ((halfR ((lB.drop (0 : Int).toNat).take (((lB.length : Int) / 2 : Int).toNat - (0 : Int).toNat))).1 : Int)) ∧ g 7 = r1q2 ∧ g 8 = (i64 ((halfR ((lB.drop ((lB.length : Int) / 2 : Int).toNat).take ((2 * ((lB.length : Int) / 2) : Int).toNat - ((lB.length : Int) / 2 : Int).toNat))).1 : Int)) ∧ g 9 = r1q4 ∧ True) ⟨rfl, rfl, rfl, rfl, rfl, rfl, rfl, rfl, rfl, trivial⟩ ?_
 rintro fr5 ⟨s0, s2, s3, s4, s5, s6, s7, s8, s9, _⟩
 refine cw_seq (sR ?_)
 refine rM rfl s8 <| rM rfl s6 <| rw_q rfl (ev_i64_gtr rfl rfl) <| rN ?_
 refine cw_cond rfl (fun hc6 => ?_) (fun hc6 => ?_)
 · -- true
   have hc6p := of_decide_eq_true hc6
   refine sR <| rM rfl s8 <| rM rfl s9 <| rw_q rfl (ev_assign (v := (bl true)) rfl) <| rA rfl rfl <| rA rfl (v := r1q4) rfl ?_
   refine rN (cw_ret (kThen_ret ?_))
   refine fnPost_ret [(bl true), (i64 ((halfR ((lB.drop ((lB.length : Int) / 2 : Int).toNat).take ((2 * ((lB.length : Int) / 2) : Int).toNat - ((lB.length : Int) / 2 : Int).toNat))).1 : Int)), r1q4] ⟨rfl, rfl, rfl, trivial⟩ ?_
   have hm7 := Mem.drop Hsq2 _ (Mem.pick Hsq4 Hsq2 _ hm3)
   have hc := of_decide_eq_true hc6
   unfold diskR; simp only []; rw [if_pos oM]
   exact ⟨r1q4, lsq4, Hsq4, rfl, hMq4, hLq4, grq4, by simpa using hm7⟩
 · -- false
   have hc6p := of_decide_eq_false hc6
   refine cw_skip (kThen_normal (sR ?_))
   refine rM rfl s6 <| rM rfl s7 <| rw_q rfl (ev_assign (v := (bl false)) rfl) <| rA rfl rfl <| rA rfl (v := r1q2) rfl ?_
   refine rN (cw_ret ?_)
   refine fnPost_ret [(bl false), (i64 ((halfR ((lB.drop (0 : Int).toNat).take (((lB.length : Int) / 2 : Int).toNat - (0 : Int).toNat))).1 : Int)), r1q2] ⟨rfl, rfl, rfl, trivial⟩ ?_
   have hm8 := Mem.drop Hsq4 _ hm3
   have hc := of_decide_eq_false hc6
   unfold diskR; simp only []; rw [if_neg oM]
   exact ⟨r1q2, lsq2, Hsq2, rfl, hMq2, hLq2, grq2, by simpa using hm8⟩

set_option maxHeartbeats 2000000 in
theorem c_rnewest (vB : Value) (lB : List (List (BitVec 8))) (w0 : World)  (hb : RdK (blks w0) (encA u8) 64 vB lB) (hn : lB.length ≤ 1000) : CallsR Try.prog 27 #[vB] w0 (fun r w1 => r = (i64 ((topK lB lB.length : Int) + 1)) ∧ Ext w0 w1) := by
 refine callsR_of_cw (args := [vB]) Try.func27 rfl Try.ntmps27 Try.results27 rfl ?_
 have hm0 : Mem w0 (restOf w0) [] := Mem.of_world w0
 refine sR <| rw_q rfl (ev_assign (v := (i64 0)) rfl) ?_
 refine rN (sR ?_)
 refine rw_q rfl (ev_assign (v := (i64 0)) rfl) ?_
 refine rN (cw_seq (sR ?_))
 refine rw_q rfl (ev_assign (v := (i64 0)) rfl) ?_
 refine rN (cw_block ?_)
 refine cw_loop (fun g wv => ∃ (k : Nat), (k ≤ lB.length) ∧ g 0 = vB ∧ g 2 = (i64 0) ∧ g 3 = (i64 (topK lB k : Int)) ∧ g 4 = (i64 (k : Int)) ∧ Mem wv (restOf w0) []) (fun g wv => ((lB.length : Int) - RowKit.intOf (g 4)).toNat) ?_ ?_
 · exact ⟨0, (Nat.zero_le _), rfl, rfl, (congrArg i64 topK_0), rfl, hm0⟩
 · rintro fr1 w2 ⟨k, hk, s0, s2, s3, s4, hm2⟩
   have z3 := s3
   have z4 := s4
   refine cw_seq (sR ?_)
   refine rM rfl s4 <| rM rfl s0 <| rw_q (v := (i64 (lB.length : Int))) rfl (ev_len_rk (RdK.ofRest hb hm2) uT40 rfl) <| rw_q rfl (ev_i64_lss rfl rfl) <| rN ?_
   refine cw_cond rfl (fun hc3 => ?_) (fun hc3 => ?_)
   · -- true
     have hc3p := of_decide_eq_true hc3
     have hxk := encA_b hb (show k < lB.length by omega)
     refine cw_skip (kThen_normal (cw_seq (cw_block ?_)))
     refine cw_draw [(0, false), (1, false), (2, false), (3, false), (4, false), (5, false), (6, false), (7, false), (8, false), (9, false), (10, false)] 11 (by kernel_rfl) <| dM rfl rfl s3 <| dM rfl rfl s0 <| dM rfl rfl s4 <| dw_q rfl rfl (fun _ _hx => ev_indexAddr_rk (i := (k : Int)) (RdK.ofRest hb (hm2.ext _hx)) uT40 ti83 rfl rfl oM sL) <| dw_q rfl rfl (fun _ _hx => ev_slice_elkR (i := (k : Int)) (lo := 0) (hi := 4) (RdK.ofRest hb (hm2.ext _hx)) sL rfl uT83 ti5 rfl rfl rfl oM oM oM) ?_
     refine dw_x (v := (i64 (natB (((lB.getD k []).drop 0).take 4) : Int))) rfl rfl (fun w4 _ew4 => OpR.mono (opR_call Try.func56 bd56 nm56 (args1 rfl) (c_rnumber (subv (elsl vB (k : Int) 64) 0 4) (((lB.getD k []).drop 0).take 4) _ (Rd.cast (l' := ((lB.getD k []).drop 0).take 4) (Rd.sub (i := 0) (j := 4) (Rd.elsl (i := (k : Int)) (RdK.ofRest hb (hm2.ext _ew4)) sL) oM oM (by rw [RdK.elen (RdK.ofRest hb (hm2.ext _ew4)) sL]; omega)) rfl) sL)) (by rintro _ w5 ⟨rfl, _ew5⟩; exact ⟨rfl, _ew5⟩)) <| dM rfl rfl s0 <| dM rfl rfl s4 <| dw_q rfl rfl (fun _ _hx => ev_indexAddr_rk (i := (k : Int)) (RdK.ofRest hb (hm2.ext _hx)) uT40 ti83 rfl rfl oM sL) <| dw_q rfl rfl (fun _ _hx => ev_slice_elkR (i := (k : Int)) (lo := 54) (hi := 58) (RdK.ofRest hb (hm2.ext _hx)) sL rfl uT83 ti5 rfl rfl rfl oM oM oM) <| dw_x (v := (i64 (natB (((lB.getD k []).drop 54).take 4) : Int))) rfl rfl (fun w7 _ew7 => OpR.mono (opR_call Try.func56 bd56 nm56 (args1 rfl) (c_rnumber (subv (elsl vB (k : Int) 64) 54 58) (((lB.getD k []).drop 54).take 4) _ (Rd.cast (l' := ((lB.getD k []).drop 54).take 4) (Rd.sub (i := 54) (j := 58) (Rd.elsl (i := (k : Int)) (RdK.ofRest hb (hm2.ext _ew7)) sL) oM oM (by rw [RdK.elen (RdK.ofRest hb (hm2.ext _ew7)) sL]; omega)) rfl) sL)) (by rintro _ w8 ⟨rfl, _ew8⟩; exact ⟨rfl, _ew8⟩)) ?_
     refine dw_nil (fun w10 _ew10 => ?_)
     have hm10 := hm2.ext _ew10
     refine rw_q (v := (i64 (maxI (maxI (topK lB k : Int) (natB (((lB.getD k []).drop 0).take 4) : Int)) (natB (((lB.getD k []).drop 54).take 4) : Int)))) rfl (ev_max3_i64 (a := (topK lB k : Int)) (b := (natB (((lB.getD k []).drop 0).take 4) : Int)) (c := (natB (((lB.getD k []).drop 54).take 4) : Int)) rfl rfl rfl) <| rA rfl rfl ?_
     refine rw_nil (kBlk_normal ?_)
     refine CW.abs (fun g => g 0 = vB ∧ g 2 = (i64 0) ∧ g 3 = (i64 (maxI (maxI (topK lB k : Int) (natB (((lB.getD k []).drop 0).take 4) : Int)) (natB (((lB.getD k []).drop 54).take 4) : Int))) ∧ g 4 = (i64 (k : Int)) ∧ g 8 = (bl (decide ((k : Int) < (lB.length : Int)))) ∧ True) ⟨s0, s2, rfl, s4, rfl, trivial⟩ ?_
     rintro fr11 ⟨s0, s2, s3, s4, s8, _⟩
     refine cw_region <| rM rfl s4 <| rw_q rfl (ev_i64_add (b := 1) rfl rfl oM oM) <| rw_q rfl (ev_assign (v := (i64 ((k : Int) + 1))) rfl) <| rN ?_
     exact ⟨⟨(k + 1), oM, s0, s2, (Eq.trans s3 (congrArg i64 (topK_S rfl rfl rfl))), rfl, hm10⟩, meas (rfl) z4 oM oM⟩
   · -- false
     have hc3p := of_decide_eq_false hc3
     have htk := topK_lt lB k
     refine cw_exit ?_
     refine kThen_exit (kThen_exit (kBlk_hit ?_))
     refine sR <| rM rfl s3 <| rw_q rfl (ev_i64_add (b := 1) rfl rfl oM oM) <| rw_q rfl (ev_assign (v := (i64 ((topK lB k : Int) + 1))) rfl) ?_
     refine rN (cw_ret ?_)
     refine fnPost_ret [(i64 ((topK lB k : Int) + 1))] ⟨rfl, trivial⟩ ?_
     exact ⟨congrArg i64 (by rw [show k = lB.length by omega]), hm2.toExt⟩


end Go.Proofs.Ytfbnhoolkajebaa
