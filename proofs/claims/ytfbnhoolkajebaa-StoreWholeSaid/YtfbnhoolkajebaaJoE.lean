/- What the document reads: plain law; contracts. Conditions: none beyond those that each theorem states. -/
import Derived.Test.YtfbnhoolkajebaaJo8
import Derived.Test.YtfbnhoolkajebaaJoB
namespace Go.Proofs.Ytfbnhoolkajebaa
section
set_option linter.unusedVariables false
set_option linter.unusedSimpArgs false
attribute [local irreducible] crashB crashK pushB readB inB errB cutN seenW
attribute [local irreducible] markB putB getB getK partB placeF blkOf rawB writeK blocksN
attribute [local irreducible] mostK newB roomB
attribute [local irreducible] recB recF recN genF badB lastP dataB gOf rOf pOf nOf loopH readH
attribute [local irreducible] okP layK turnL turnP oldB
attribute [local irreducible] openD
attribute [local irreducible] okG okV GB natB fitsB
end --m
section
set_option linter.unusedVariables false
set_option linter.unusedSimpArgs false

theorem same_len {la lb : List (BitVec 8)} (h : (la.length : Int) ≠ (lb.length : Int)) : false = (la == lb) := by
  symm; rw [beq_eq_false_iff_ne]; rintro rfl; exact h rfl
theorem same_at {la lb : List (BitVec 8)} {k : Nat} (h : la.getD k 0 ≠ lb.getD k 0) : false = (la == lb) := by
  symm; rw [beq_eq_false_iff_ne]; rintro rfl; exact h rfl
theorem same_all {la lb : List (BitVec 8)} (h : (la.length : Int) = (lb.length : Int)) (hall : ∀ j, j < la.length → la.getD j 0 = lb.getD j 0) : true = (la == lb) := by
  symm; rw [beq_iff_eq]
  refine List.ext_getElem oM fun i h1 h2 => ?_
  have := hall i h1
  simpa [List.getD_eq_getElem?_getD, h1, h2] using this
theorem same_step {la lb : List (BitVec 8)} {k : Nat} (heq : ∀ j, j < k → la.getD j 0 = lb.getD j 0) (h : la.getD k 0 = lb.getD k 0) : ∀ j, j < k + 1 → la.getD j 0 = lb.getD j 0 := by
  intro j hj
  rcases Nat.lt_or_ge j k with h1 | h1
  · exact heq j h1
  · have : j = k := by omega
    subst this; exact h
theorem crash_none {ls : List (List (BitVec 8))} {q : List (BitVec 8)} : crashB ls [] q = ls := rfl
attribute [local irreducible] crashB crashK pushB readB inB errB cutN seenW
attribute [local irreducible] markB putB getB getK partB placeF blkOf rawB writeK blocksN
attribute [local irreducible] mostK newB roomB
attribute [local irreducible] recB recF recN genF badB lastP dataB gOf rOf pOf nOf loopH readH
attribute [local irreducible] okP layK turnL turnP oldB
attribute [local irreducible] openD
attribute [local irreducible] okG okV GB natB fitsB
attribute [local irreducible] syncF
theorem c_same (va vb : Value) (la lb : List (BitVec 8)) (w0 : World)  (hra : Rd (blks w0) u8 va la) (hrb : Rd (blks w0) u8 vb lb) (hla : la.length ≤ 281474976710656) : CallsR Try.prog 36 #[va, vb] w0 (fun r w1 => r = (bl (la == lb)) ∧ Ext w0 w1) := by
 refine callsR_of_cw (args := [va, vb]) Try.func36 rfl Try.ntmps36 Try.results36 rfl ?_
 have hm0 : Mem w0 (restOf w0) [] := Mem.of_world w0
 refine sR <| rw_q rfl (ev_assign (v := (bl false)) rfl) ?_
 refine rN (cw_seq (sR ?_))
 refine rM rfl (v := va) rfl <| rw_q (v := (i64 (la.length : Int))) rfl (ev_len_rd (Rd.ofRest hra hm0) uT23 rfl) <| rM rfl (v := vb) rfl <| rw_q (v := (i64 (lb.length : Int))) rfl (ev_len_rd (Rd.ofRest hrb hm0) uT23 rfl) <| rw_q rfl (ev_i64_neq rfl rfl) <| rN ?_
 refine cw_cond rfl (fun hc1 => ?_) (fun hc1 => ?_)
 · -- true
   have hc1p := bne_iff_ne.1 hc1
   refine sR <| rw_q rfl (ev_assign (v := (bl false)) rfl) ?_
   refine rN (cw_ret (kThen_ret ?_))
   refine fnPost_ret [(bl false)] ⟨rfl, trivial⟩ ?_
   exact ⟨congrArg bl (same_len hc1p), hm0.toExt⟩
 · -- false
   have hc1p := eq_of_bne_false hc1
   refine cw_skip (kThen_normal (cw_seq (sR ?_)))
   refine rw_q rfl (ev_assign (v := (i64 0)) rfl) ?_
   refine rN (cw_block ?_)
   refine cw_loop (fun g wv => ∃ (k : Nat), (k ≤ la.length) ∧ (∀ j, j < k → la.getD j 0 = lb.getD j 0) ∧ g 0 = va ∧ g 1 = vb ∧ g 5 = (i64 (k : Int)) ∧ g 10 = (bl ((la.length : Int) != (lb.length : Int))) ∧ Mem wv (restOf w0) []) (fun g wv => ((la.length : Int) - RowKit.intOf (g 5)).toNat) ?_ ?_
   · exact ⟨0, oM, (by intro j hj; omega), rfl, rfl, rfl, rfl, hm0⟩
   · rintro fr2 w3 ⟨k, hk, heq, s0, s1, s5, s10, hm3⟩
     have z5 := s5
     refine cw_seq (sR ?_)
     refine rM rfl s5 <| rM rfl s0 <| rw_q (v := (i64 (la.length : Int))) rfl (ev_len_rd (Rd.ofRest hra hm3) uT23 rfl) <| rw_q rfl (ev_i64_lss rfl rfl) <| rN ?_
     refine cw_cond rfl (fun hc4 => ?_) (fun hc4 => ?_)
     · -- true
       have hc4p := of_decide_eq_true hc4
       refine cw_skip (kThen_normal (cw_seq (cw_block (cw_seq ?_))))
       refine cw_draw [(0, false), (1, false), (2, false), (3, false), (4, false), (5, false), (6, false), (7, false)] 8 (by kernel_rfl) <| dM rfl rfl s0 <| dM rfl rfl s5 <| dw_q rfl rfl (fun _ _hx => ev_indexAddr_rdv (Rd.ofRest hra (hm3.ext _hx)) uT23 ti5 rfl rfl oM sD) <| dw_q (v := (u8 (la.getD k 0))) rfl rfl (fun _ _hx => ev_load_rdD (l := la) (i := (k : Int)) (dflt := 0) (Rd.ofRest hra (hm3.ext _hx)) uT5 rfl oM sD rfl) <| dM rfl rfl s1 ?_
       refine dM rfl rfl s5 <| dw_q rfl rfl (fun _ _hx => ev_indexAddr_rdv (Rd.ofRest hrb (hm3.ext _hx)) uT23 ti5 rfl rfl oM sD) <| dw_q (v := (u8 (lb.getD k 0))) rfl rfl (fun _ _hx => ev_load_rdD (l := lb) (i := (k : Int)) (dflt := 0) (Rd.ofRest hrb (hm3.ext _hx)) uT5 rfl oM sD rfl) ?_
       refine dw_nil (fun w5 _ew5 => ?_)
       have hm5 := hm3.ext _ew5
       refine rw_q rfl (ev_u8_neq rfl rfl) <| rN ?_
       refine CW.abs (fun g => g 0 = va ∧ g 1 = vb ∧ g 5 = (i64 (k : Int)) ∧ g 10 = (bl ((la.length : Int) != (lb.length : Int))) ∧ g 14 = (bl (decide ((k : Int) < (la.length : Int)))) ∧ g 25 = (bl ((la.getD k 0) != (lb.getD k 0))) ∧ True) ⟨s0, s1, s5, s10, rfl, rfl, trivial⟩ ?_
       rintro fr6 ⟨s0, s1, s5, s10, s14, s25, _⟩
       refine cw_cond s25 (fun hc7 => ?_) (fun hc7 => ?_)
       · -- true
         have hc7p := bne_iff_ne.1 hc7
         refine sR <| rw_q rfl (ev_assign (v := (bl false)) rfl) ?_
         refine rN (cw_ret ?_)
         refine kBlk_ret (kThen_ret (kBlk_ret ?_))
         refine fnPost_ret [(bl false)] ⟨rfl, trivial⟩ ?_
         exact ⟨congrArg bl (same_at hc7p), hm5.toExt⟩
       · -- false
         have hc7p := eq_of_bne_false hc7
         refine cw_skip (kBlk_normal (cw_region ?_))
         refine rM rfl s5 <| rw_q rfl (ev_i64_add (b := 1) rfl rfl oM oM) <| rw_q rfl (ev_assign (v := (i64 ((k : Int) + 1))) rfl) <| rN ?_
         exact ⟨⟨k + 1, oM, (same_step heq hc7p), s0, s1, rfl, s10, hm5⟩, meas rfl z5 oM oM⟩
     · -- false
       have hc4p := of_decide_eq_false hc4
       refine cw_exit ?_
       refine kThen_exit (kThen_exit (kBlk_hit ?_))
       refine sR <| rw_q rfl (ev_assign (v := (bl true)) rfl) ?_
       refine rN (cw_ret ?_)
       refine fnPost_ret [(bl true)] ⟨rfl, trivial⟩ ?_
       exact ⟨congrArg bl (same_all hc1p (fun j hj => heq j oM)), hm3.toExt⟩

end --m
section
set_option linter.unusedVariables false
set_option linter.unusedSimpArgs false
/-! ### What the document reads -/
theorem natB_lt2 {l : List (BitVec 8)} (h : l.length ≤ 2) : natB l < 65536 := by
  have := (getB_nat l oM).2
  have h2 : 256 ^ l.length ≤ 256 ^ 2 := Nat.pow_le_pow_right (by decide) h
  omega
def gY (x : List (BitVec 8)) : Nat := natB ((x.drop 0).take 4)
def rY (x : List (BitVec 8)) : Nat := natB ((x.drop 4).take 4)
def pY (x : List (BitVec 8)) : Nat := natB ((x.drop 8).take 2)
def nY (x : List (BitVec 8)) : Nat := natB ((x.drop 10).take 2)
def wholeY (x : List (BitVec 8)) : Bool := ((x.drop 0).take 10 == (x.drop 54).take 10) && (decide ((nY x : Int) ≤ 42) && ((nY x : Int) == 42 || decide (32768 ≤ (pY x : Int))))
def dY (x : List (BitVec 8)) : List (BitVec 8) := (x.drop 12).take (nY x)
theorem pY_lt (x : List (BitVec 8)) : pY x < 65536 := natB_lt2 (by simp; omega)
def OkY (x : List (BitVec 8)) (g m p : Nat) : Prop := wholeY x = true ∧ gY x = g ∧ rY x = m ∧ pY x % 32768 = p
instance {x : List (BitVec 8)} {g m p : Nat} : Decidable (OkY x g m p) := by unfold OkY; infer_instance
def halfL (g : Nat) : List (List (BitVec 8)) → List (List (BitVec 8)) → List (BitVec 8) → Nat → List (List (BitVec 8))
  | [], out, _, _ => out
  | x :: xs, out, part, p => if OkY x g out.length p then (if 32768 ≤ pY x then halfL g xs (out ++ [part ++ dY x]) [] 0 else halfL g xs out (part ++ dY x) (p + 1)) else out
section
variable {g i p : Nat} {B out F : List (List (BitVec 8))} {part : List (BitVec 8)}
theorem drop_getD (h : i < B.length) : B.drop i = B.getD i [] :: B.drop (i + 1) := by
  rw [List.drop_eq_getElem_cons h]; simp [List.getD_eq_getElem?_getD, h]
theorem half_end (h : ¬ i < B.length) (hF : halfL g (B.drop i) out part p = F) : F = out := by
  rw [← hF, List.drop_of_length_le oM]; rfl
theorem half_no (h : i < B.length) (hn : ¬ OkY (B.getD i []) g out.length p) (hF : halfL g (B.drop i) out part p = F) : F = out := by
  rw [← hF, drop_getD h]; show (if _ then _ else _) = _; rw [if_neg hn]
theorem half_last (h : i < B.length) (hn : OkY (B.getD i []) g out.length p) (hl : 32768 ≤ pY (B.getD i [])) (hF : halfL g (B.drop i) out part p = F) : halfL g (B.drop (i + 1)) (out ++ [part ++ dY (B.getD i [])]) [] 0 = F := by
  rw [← hF, drop_getD h]; symm; show (if _ then _ else _) = _; rw [if_pos hn, if_pos hl]
theorem half_more (h : i < B.length) (hn : OkY (B.getD i []) g out.length p) (hl : ¬ 32768 ≤ pY (B.getD i [])) (hF : halfL g (B.drop i) out part p = F) : halfL g (B.drop (i + 1)) out (part ++ dY (B.getD i [])) (p + 1) = F := by
  rw [← hF, drop_getD h]; symm; show (if _ then _ else _) = _; rw [if_pos hn, if_neg hl]
end
/-- The document's half: its generation, its records. -/
def halfR (B : List (List (BitVec 8))) : Nat × List (List (BitVec 8)) :=
  if B.length = 0 then (0, []) else if wholeY (B.getD 0 []) = false then (0, []) else if gY (B.getD 0 []) = 0 then (0, [])
  else if (halfL (gY (B.getD 0 [])) B [] [] 0).length = 0 then (0, []) else (gY (B.getD 0 []), halfL (gY (B.getD 0 [])) B [] [] 0)
theorem halfR_0 {B : List (List (BitVec 8))} (h : B.length = 0) : halfR B = (0, []) := by unfold halfR; rw [if_pos h]
theorem halfR_1 {B : List (List (BitVec 8))} (h : wholeY (B.getD 0 []) = false) : halfR B = (0, []) := by
  unfold halfR; by_cases e : B.length = 0
  · rw [if_pos e]
  · rw [if_neg e, if_pos h]
theorem halfR_2 {B : List (List (BitVec 8))} (h : gY (B.getD 0 []) = 0) : halfR B = (0, []) := by
  unfold halfR
  by_cases e : B.length = 0
  · rw [if_pos e]
  · rw [if_neg e]
    by_cases e2 : wholeY (B.getD 0 []) = false
    · rw [if_pos e2]
    · rw [if_neg e2, if_pos h]
theorem halfR_3 {B : List (List (BitVec 8))} (h0 : ¬ B.length = 0) (h1 : wholeY (B.getD 0 []) = true) (h2 : ¬ gY (B.getD 0 []) = 0) {out : List (List (BitVec 8))} (h3 : halfL (gY (B.getD 0 [])) B [] [] 0 = out) : halfR B = if out.length = 0 then (0, []) else (gY (B.getD 0 []), out) := by
  unfold halfR; rw [if_neg h0, if_neg (by rw [h1]; simp), if_neg h2, h3]
def diskR (B : List (List (BitVec 8))) : Bool × Nat × List (List (BitVec 8)) :=
  let n : Int := (B.length : Int) / 2
  let a := halfR ((B.drop (0 : Int).toNat).take (n.toNat - (0 : Int).toNat))
  let c := halfR ((B.drop n.toNat).take ((2 * n).toNat - n.toNat))
  if a.1 < c.1 then (true, c.1, c.2) else (false, a.1, a.2)
/-- The greatest number of a generation. -/
def topK (B : List (List (BitVec 8))) : Nat → Nat
  | 0 => 0
  | k + 1 => max (max (topK B k) (natB (((B.getD k []).drop 0).take 4))) (natB (((B.getD k []).drop 54).take 4))
attribute [local irreducible] crashB crashK pushB readB inB errB cutN seenW
attribute [local irreducible] markB putB getB getK partB placeF blkOf rawB writeK blocksN
attribute [local irreducible] mostK newB roomB
attribute [local irreducible] recB recF recN genF badB lastP dataB gOf rOf pOf nOf loopH readH
attribute [local irreducible] okP layK turnL turnP oldB
attribute [local irreducible] openD
attribute [local irreducible] okG okV GB natB fitsB
attribute [local irreducible] syncF
attribute [local irreducible] gY rY pY nY wholeY dY halfL halfR diskR topK
end --m
end Go.Proofs.Ytfbnhoolkajebaa
