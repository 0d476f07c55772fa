/- Contracts: what is told with its size. Conditions: none beyond those that each theorem states. -/
import Derived.Test.YtfbnhoolkajebaaDk1
import Derived.Test.YtfbnhoolkajebaaFwY
import Derived.Test.YtfbnhoolkajebaaFwV
import Derived.Test.YtfbnhoolkajebaaSo1
namespace Go.Proofs.Ytfbnhoolkajebaa
section
open Go.ChangeShapes Go.WideShapes Go.ChangeAt Go.RowKit
set_option linter.unusedSimpArgs false
set_option linter.unusedVariables false
section
variable {P : Program} {fr : Nat → Value} {w : World} {ty : TypeId} {x y : Operand}
theorem ev_i64_orB {q b : Int} {t t' : TypeId} (hx : evalF fr x = i64 (q * 256)) (hy : evalF fr y = i64 b) (h0 : 0 ≤ q ∧ q < 36028797018963968) (h1 : 0 ≤ b ∧ b < 256) : EvQ P fr w (.binOp .or t x y t') ty (i64 (q * 256 + b)) :=
  ev_int rfl hx hy (by
    obtain ⟨m, rfl⟩ : ∃ m : Nat, q = (m : Int) := ⟨q.toNat, by omega⟩
    obtain ⟨n, rfl⟩ : ∃ n : Nat, b = (n : Int) := ⟨b.toNat, by omega⟩
    have ha : (BitVec.ofInt 64 ((m : Int) * 256)).toNat = m <<< 8 := by rw [BitVec.toNat_ofInt, Nat.shiftLeft_eq]; omega
    have hb : (BitVec.ofInt 64 (n : Int)).toNat = n := by rw [BitVec.toNat_ofInt]; omega
    have e : intOp .or .i64 ((m : Int) * 256) (n : Int) = pure (.int .i64 (IntKind.i64.wrap ((BitVec.ofInt 64 ((m : Int) * 256) ||| BitVec.ofInt 64 (n : Int)).toNat : Int))) := rfl
    have h : (BitVec.ofInt 64 ((m : Int) * 256) ||| BitVec.ofInt 64 (n : Int)).toNat = m * 256 + n := by
      rw [BitVec.toNat_or, ha, hb, ← Nat.shiftLeft_add_eq_or_of_lt (show n < 2 ^ 8 by omega), Nat.shiftLeft_eq]
    have hc : ((m * 256 + n : Nat) : Int) = (m : Int) * 256 + (n : Int) := by omega
    rw [e, h, wrap_i64 (by omega) (by omega), hc]; rfl)
end
end --m
section
set_option linter.unusedVariables false
set_option linter.unusedSimpArgs false
theorem natB_0q (l : List (BitVec 8)) : (0 : Int) = (natB (l.take 0) : Int) := rfl
attribute [local irreducible] natB tkN tkOk
set_option maxHeartbeats 2000000 in
theorem c_stake0 (vb : Value) (b : List (BitVec 8)) (n : Nat) (w0 : World)  (hb : Rd (blks w0) u8 vb b) (hbl : b.length ≤ 1048576) (hn : n ≤ 4) (htk : tkOk b n = false) : CallsR Try.prog 61 #[vb, (i64 (n : Int))] w0 (fun r w1 => r = (Value.tuple #[(Value.slice none 0 0), (Value.slice none 0 0), (bl false)]) ∧ Ext w0 w1) := by
 refine callsR_of_cw (args := [vb, (i64 (n : Int))]) Try.func61 rfl Try.ntmps61 Try.results61 rfl ?_
 have hm0 : Mem w0 (restOf w0) [] := Mem.of_world w0
 refine sR <| rw_q rfl (ev_assign (v := (Value.slice none 0 0)) rfl) <| rw_q rfl (ev_assign (v := (Value.slice none 0 0)) rfl) <| rw_q rfl (ev_assign (v := (bl false)) rfl) ?_
 refine rN (cw_seq (sR ?_))
 refine rM rfl (v := vb) rfl <| rw_q (v := (i64 (b.length : Int))) rfl (ev_len_rd (Rd.ofRest hb hm0) uT23 rfl) <| rw_q rfl (ev_move (v := (i64 (n : Int))) rfl) <| rw_q rfl (ev_i64_lss rfl rfl) <| rN ?_
 refine cw_cond rfl (fun hc1 => ?_) (fun hc1 => ?_)
 · -- true
   have hc1p := of_decide_eq_true hc1
   refine sR <| rw_q rfl (ev_assign (v := (Value.slice none 0 0)) rfl) <| rw_q rfl (ev_assign (v := (Value.slice none 0 0)) rfl) <| rw_q rfl (ev_assign (v := (bl false)) rfl) ?_
   refine rN (cw_ret (kThen_ret ?_))
   refine fnPost_ret [(Value.slice none 0 0), (Value.slice none 0 0), (bl false)] ⟨rfl, rfl, rfl, trivial⟩ ?_
   exact ⟨rfl, hm0.toExt⟩
 · -- false
   have hc1p := of_decide_eq_false hc1
   have hbn : (b.take n).length = n := by rw [List.length_take]; omega
   have hsl : ((b.drop (0 : Int).toNat).take (((n : Int) : Int).toNat - (0 : Int).toNat)) = (b.take n) := by rw [Int.toNat_natCast]; rfl
   have hsll : ((b.drop (0 : Int).toNat).take (((n : Int) : Int).toNat - (0 : Int).toNat)).length = n := by rw [hsl]; exact hbn
   refine cw_skip (kThen_normal (sR ?_))
   refine rw_q rfl (ev_assign (v := (i64 0)) rfl) ?_
   refine rN (cw_seq (sR ?_))
   refine rM rfl (v := vb) rfl <| rw_q rfl (ev_move (v := (i64 (n : Int))) rfl) <| rw_q rfl (ev_slice_rd (i := 0) (j := (n : Int)) (Rd.ofRest hb hm0) uT23 ti5 rfl (optI_none _ _) (optI_some (k := .i64) (i := (n : Int)) rfl) oM sL sL) <| rw_q (v := (i64 (((b.drop (0 : Int).toNat).take (((n : Int) : Int).toNat - (0 : Int).toNat)).length : Int))) rfl (ev_len_rd (Rd.cast (l' := (b.drop (0 : Int).toNat).take (((n : Int) : Int).toNat - (0 : Int).toNat)) (Rd.sub (Rd.ofRest hb hm0) oM sL sL) rfl) uT23 rfl) <| rw_q rfl (ev_move (v := (i64 0)) rfl) ?_
   refine rN (cw_block ?_)
   refine cw_loop (fun g wv => ∃ (k : Nat), (k ≤ n) ∧ g 0 = vb ∧ g 1 = (i64 (n : Int)) ∧ g 4 = (Value.slice none 0 0) ∧ g 5 = (Value.slice none 0 0) ∧ g 6 = (bl false) ∧ g 7 = (i64 (natB ((b.take n).take k) : Int)) ∧ g 13 = (bl (decide ((b.length : Int) < (n : Int)))) ∧ g 16 = (subv vb 0 (n : Int)) ∧ g 17 = (i64 (((b.drop (0 : Int).toNat).take (((n : Int) : Int).toNat - (0 : Int).toNat)).length : Int)) ∧ g 18 = (i64 (k : Int)) ∧ Mem wv (restOf w0) []) (fun g wv => ((n : Int) - RowKit.intOf (g 18)).toNat) ?_ ?_
   · exact ⟨0, (Nat.zero_le _), rfl, rfl, rfl, rfl, rfl, (congrArg i64 (natB_0q (b.take n))), rfl, rfl, rfl, rfl, hm0⟩
   · rintro fr2 w3 ⟨k, hk, s0, s1, s4, s5, s6, s7, s13, s16, s17, s18, hm3⟩
     have z7 := s7
     have z18 := s18
     refine sR <| rw_q rfl (ev_i64_lss s18 s17) ?_
     refine rN (cw_seq ?_)
     refine cw_cond rfl (fun hc4 => ?_) (fun hc4 => ?_)
     · -- true
       have hc4p := of_decide_eq_true hc4
       have hgd : ((b.drop (0 : Int).toNat).take (((n : Int) : Int).toNat - (0 : Int).toNat)).getD k 0 = (b.take n).getD k 0 := by rw [hsl]
       have hn4 := natB_lt4' (l := (b.take n).take k) (by rw [List.length_take]; omega)
       have hns := natB_succ' (l := (b.take n)) (k := k) oM
       have hc8 := ((b.take n).getD k 0).isLt
       refine cw_skip (kThen_normal (cw_seq (cw_block (sR ?_))))
       refine rw_q rfl (ev_indexAddr_rdv (Rd.cast (l' := (b.drop (0 : Int).toNat).take (((n : Int) : Int).toNat - (0 : Int).toNat)) (Rd.sub (Rd.ofRest hb hm3) oM sL sL) rfl) uT23 ti5 s16 s18 oM sL) <| rw_q (v := (u8 (((b.drop (0 : Int).toNat).take (((n : Int) : Int).toNat - (0 : Int).toNat)).getD k 0))) rfl (ev_load_rdD (l := (b.drop (0 : Int).toNat).take (((n : Int) : Int).toNat - (0 : Int).toNat)) (i := (k : Int)) (dflt := 0) (Rd.cast (l' := (b.drop (0 : Int).toNat).take (((n : Int) : Int).toNat - (0 : Int).toNat)) (Rd.sub (Rd.ofRest hb hm3) oM sL sL) rfl) uT5 rfl oM sL rfl) <| rA rfl rfl ?_
       refine rN (cw_region ?_)
       refine rM rfl s7 <| rw_q rfl (ev_i64_shlK (p := 256) (b := 8) rfl rfl rfl (by decide) (by decide) oM oM) <| rM rfl rfl <| rw_q rfl (ev_conv_u8_i64 ⟨_, uT5⟩ uT3 rfl) <| rw_q rfl (ev_i64_orB (q := (natB ((b.take n).take k) : Int)) (b := ((((b.drop (0 : Int).toNat).take (((n : Int) : Int).toNat - (0 : Int).toNat)).getD k 0).toNat : Int)) rfl rfl oM oM) <| rA rfl rfl ?_
       refine rw_nil (kBlk_normal (cw_region ?_))
       refine rw_q rfl (ev_i64_add (b := 1) s18 rfl oM oM) <| rw_q rfl (ev_move (v := (i64 ((k : Int) + 1))) rfl) <| rN ?_
       exact ⟨⟨(k + 1), oM, s0, s1, s4, s5, s6, (Eq.trans rfl (congrArg i64 (by rw [hns, ← hgd]; omega))), s13, s16, s17, rfl, hm3⟩, meas (rfl) z18 oM oM⟩
     · -- false
       have hc4p := of_decide_eq_false hc4
       have hfull : natB ((b.take n).take k) = tkN b n := by unfold tkN; rw [show k = n by omega, List.take_take, Nat.min_self]
       have htn : tkN b n < 4294967296 := by unfold tkN; exact natB_lt4' (by rw [List.length_take]; omega)
       refine CW.abs (fun g => g 0 = vb ∧ g 1 = (i64 (n : Int)) ∧ g 4 = (Value.slice none 0 0) ∧ g 5 = (Value.slice none 0 0) ∧ g 6 = (bl false) ∧ g 7 = (i64 (tkN b n : Int)) ∧ g 13 = (bl (decide ((b.length : Int) < (n : Int)))) ∧ g 16 = (subv vb 0 (n : Int)) ∧ g 17 = (i64 (((b.drop (0 : Int).toNat).take (((n : Int) : Int).toNat - (0 : Int).toNat)).length : Int)) ∧ g 18 = (i64 (k : Int)) ∧ g 19 = (bl (decide ((k : Int) < (((b.drop (0 : Int).toNat).take (((n : Int) : Int).toNat - (0 : Int).toNat)).length : Int)))) ∧ True) ⟨s0, s1, s4, s5, s6, (Eq.trans s7 (congrArg (fun q : Nat => i64 (q : Int)) hfull)), s13, s16, s17, s18, rfl, trivial⟩ ?_
       rintro fr5 ⟨s0, s1, s4, s5, s6, s7, s13, s16, s17, s18, s19, _⟩
       refine cw_exit ?_
       refine kThen_exit (kThen_exit (kBlk_hit ?_))
       refine cw_seq (sR ?_)
       refine rM rfl s0 <| rM rfl s1 <| rw_q rfl (ev_slice_rd (i := (n : Int)) (j := (b.length : Int)) (Rd.ofRest hb hm3) uT23 ti5 rfl (optI_some (k := .i64) (i := (n : Int)) rfl) (optI_none _ _) oM sL sL) <| rw_q rfl (ev_assign (v := (subv vb (n : Int) (b.length : Int))) rfl) ?_
       refine rN (sR ?_)
       refine rM rfl s7 <| rw_q rfl (ev_move (v := (subv vb (n : Int) (b.length : Int))) rfl) <| rw_q (v := (i64 (((b.drop ((n : Int) : Int).toNat).take (((b.length : Int) : Int).toNat - ((n : Int) : Int).toNat)).length : Int))) rfl (ev_len_rd (Rd.cast (l' := (b.drop ((n : Int) : Int).toNat).take (((b.length : Int) : Int).toNat - ((n : Int) : Int).toNat)) (Rd.sub (Rd.ofRest hb hm3) oM sL sL) rfl) uT23 rfl) <| rw_q rfl (ev_i64_gtr rfl rfl) <| rN ?_
       have hd6 : (decide ((((b.drop ((n : Int) : Int).toNat).take (((b.length : Int) : Int).toNat - ((n : Int) : Int).toNat)).length : Int) < (tkN b n : Int))) = true := decide_eq_true (by have h1 := tk_f htk oM; simp only [List.length_drop, List.length_take]; omega)
       refine cw_cond_t rfl hd6 <| sR <| rw_q rfl (ev_assign (v := (Value.slice none 0 0)) rfl) <| rw_q rfl (ev_assign (v := (Value.slice none 0 0)) rfl) <| rw_q rfl (ev_assign (v := (bl false)) rfl) ?_
       refine rN (cw_ret (kThen_ret ?_))
       refine fnPost_ret [(Value.slice none 0 0), (Value.slice none 0 0), (bl false)] ⟨rfl, rfl, rfl, trivial⟩ ?_
       exact ⟨rfl, hm3.toExt⟩

set_option maxHeartbeats 2000000 in
theorem c_stake1 (vb : Value) (b : List (BitVec 8)) (n : Nat) (w0 : World)  (hb : Rd (blks w0) u8 vb b) (hbl : b.length ≤ 1048576) (hn : n ≤ 4) (htk : tkOk b n = true) : CallsR Try.prog 61 #[vb, (i64 (n : Int))] w0 (fun r w1 => r = (Value.tuple #[(tkP vb b n), (tkR vb b n), (bl true)]) ∧ Ext w0 w1) := by
 refine callsR_of_cw (args := [vb, (i64 (n : Int))]) Try.func61 rfl Try.ntmps61 Try.results61 rfl ?_
 have hm0 : Mem w0 (restOf w0) [] := Mem.of_world w0
 have htt := tk_t htk
 have hbn : (b.take n).length = n := by rw [List.length_take]; omega
 have hsl : ((b.drop (0 : Int).toNat).take (((n : Int) : Int).toNat - (0 : Int).toNat)) = (b.take n) := by rw [Int.toNat_natCast]; rfl
 have hsll : ((b.drop (0 : Int).toNat).take (((n : Int) : Int).toNat - (0 : Int).toNat)).length = n := by rw [hsl]; exact hbn
 refine sR <| rw_q rfl (ev_assign (v := (Value.slice none 0 0)) rfl) <| rw_q rfl (ev_assign (v := (Value.slice none 0 0)) rfl) <| rw_q rfl (ev_assign (v := (bl false)) rfl) ?_
 refine rN (cw_seq (sR ?_))
 refine rM rfl (v := vb) rfl <| rw_q (v := (i64 (b.length : Int))) rfl (ev_len_rd (Rd.ofRest hb hm0) uT23 rfl) <| rw_q rfl (ev_move (v := (i64 (n : Int))) rfl) <| rw_q rfl (ev_i64_lss rfl rfl) <| rN ?_
 have hd1 : (decide ((b.length : Int) < (n : Int))) = false := decide_eq_false (by have h1 := tk_t htk; omega)
 refine cw_cond_f rfl hd1 ?_
 refine cw_skip (kThen_normal (sR ?_))
 refine rw_q rfl (ev_assign (v := (i64 0)) rfl) ?_
 refine rN (cw_seq (sR ?_))
 refine rM rfl (v := vb) rfl <| rw_q rfl (ev_move (v := (i64 (n : Int))) rfl) <| rw_q rfl (ev_slice_rd (i := 0) (j := (n : Int)) (Rd.ofRest hb hm0) uT23 ti5 rfl (optI_none _ _) (optI_some (k := .i64) (i := (n : Int)) rfl) oM sL sL) <| rw_q (v := (i64 (((b.drop (0 : Int).toNat).take (((n : Int) : Int).toNat - (0 : Int).toNat)).length : Int))) rfl (ev_len_rd (Rd.cast (l' := (b.drop (0 : Int).toNat).take (((n : Int) : Int).toNat - (0 : Int).toNat)) (Rd.sub (Rd.ofRest hb hm0) oM sL sL) rfl) uT23 rfl) <| rw_q rfl (ev_move (v := (i64 0)) rfl) ?_
 refine rN (cw_block ?_)
 refine cw_loop (fun g wv => ∃ (k : Nat), (k ≤ n) ∧ g 0 = vb ∧ g 1 = (i64 (n : Int)) ∧ g 4 = (Value.slice none 0 0) ∧ g 5 = (Value.slice none 0 0) ∧ g 6 = (bl false) ∧ g 7 = (i64 (natB ((b.take n).take k) : Int)) ∧ g 13 = (bl (decide ((b.length : Int) < (n : Int)))) ∧ g 16 = (subv vb 0 (n : Int)) ∧ g 17 = (i64 (((b.drop (0 : Int).toNat).take (((n : Int) : Int).toNat - (0 : Int).toNat)).length : Int)) ∧ g 18 = (i64 (k : Int)) ∧ Mem wv (restOf w0) []) (fun g wv => ((n : Int) - RowKit.intOf (g 18)).toNat) ?_ ?_
 · exact ⟨0, (Nat.zero_le _), rfl, rfl, rfl, rfl, rfl, (congrArg i64 (natB_0q (b.take n))), rfl, rfl, rfl, rfl, hm0⟩
 · rintro fr2 w3 ⟨k, hk, s0, s1, s4, s5, s6, s7, s13, s16, s17, s18, hm3⟩
   have z7 := s7
   have z18 := s18
   refine sR <| rw_q rfl (ev_i64_lss s18 s17) ?_
   refine rN (cw_seq ?_)
   refine cw_cond rfl (fun hc4 => ?_) (fun hc4 => ?_)
   · -- true
     have hc4p := of_decide_eq_true hc4
     have hgd : ((b.drop (0 : Int).toNat).take (((n : Int) : Int).toNat - (0 : Int).toNat)).getD k 0 = (b.take n).getD k 0 := by rw [hsl]
     have hn4 := natB_lt4' (l := (b.take n).take k) (by rw [List.length_take]; omega)
     have hns := natB_succ' (l := (b.take n)) (k := k) oM
     have hc8 := ((b.take n).getD k 0).isLt
     refine cw_skip (kThen_normal (cw_seq (cw_block (sR ?_))))
     refine rw_q rfl (ev_indexAddr_rdv (Rd.cast (l' := (b.drop (0 : Int).toNat).take (((n : Int) : Int).toNat - (0 : Int).toNat)) (Rd.sub (Rd.ofRest hb hm3) oM sL sL) rfl) uT23 ti5 s16 s18 oM sL) <| rw_q (v := (u8 (((b.drop (0 : Int).toNat).take (((n : Int) : Int).toNat - (0 : Int).toNat)).getD k 0))) rfl (ev_load_rdD (l := (b.drop (0 : Int).toNat).take (((n : Int) : Int).toNat - (0 : Int).toNat)) (i := (k : Int)) (dflt := 0) (Rd.cast (l' := (b.drop (0 : Int).toNat).take (((n : Int) : Int).toNat - (0 : Int).toNat)) (Rd.sub (Rd.ofRest hb hm3) oM sL sL) rfl) uT5 rfl oM sL rfl) <| rA rfl rfl ?_
     refine rN (cw_region ?_)
     refine rM rfl s7 <| rw_q rfl (ev_i64_shlK (p := 256) (b := 8) rfl rfl rfl (by decide) (by decide) oM oM) <| rM rfl rfl <| rw_q rfl (ev_conv_u8_i64 ⟨_, uT5⟩ uT3 rfl) <| rw_q rfl (ev_i64_orB (q := (natB ((b.take n).take k) : Int)) (b := ((((b.drop (0 : Int).toNat).take (((n : Int) : Int).toNat - (0 : Int).toNat)).getD k 0).toNat : Int)) rfl rfl oM oM) <| rA rfl rfl ?_
     refine rw_nil (kBlk_normal (cw_region ?_))
     refine rw_q rfl (ev_i64_add (b := 1) s18 rfl oM oM) <| rw_q rfl (ev_move (v := (i64 ((k : Int) + 1))) rfl) <| rN ?_
     exact ⟨⟨(k + 1), oM, s0, s1, s4, s5, s6, (Eq.trans rfl (congrArg i64 (by rw [hns, ← hgd]; omega))), s13, s16, s17, rfl, hm3⟩, meas (rfl) z18 oM oM⟩
   · -- false
     have hc4p := of_decide_eq_false hc4
     have hfull : natB ((b.take n).take k) = tkN b n := by unfold tkN; rw [show k = n by omega, List.take_take, Nat.min_self]
     have htn : tkN b n < 4294967296 := by unfold tkN; exact natB_lt4' (by rw [List.length_take]; omega)
     refine CW.abs (fun g => g 0 = vb ∧ g 1 = (i64 (n : Int)) ∧ g 4 = (Value.slice none 0 0) ∧ g 5 = (Value.slice none 0 0) ∧ g 6 = (bl false) ∧ g 7 = (i64 (tkN b n : Int)) ∧ g 13 = (bl (decide ((b.length : Int) < (n : Int)))) ∧ g 16 = (subv vb 0 (n : Int)) ∧ g 17 = (i64 (((b.drop (0 : Int).toNat).take (((n : Int) : Int).toNat - (0 : Int).toNat)).length : Int)) ∧ g 18 = (i64 (k : Int)) ∧ g 19 = (bl (decide ((k : Int) < (((b.drop (0 : Int).toNat).take (((n : Int) : Int).toNat - (0 : Int).toNat)).length : Int)))) ∧ True) ⟨s0, s1, s4, s5, s6, (Eq.trans s7 (congrArg (fun q : Nat => i64 (q : Int)) hfull)), s13, s16, s17, s18, rfl, trivial⟩ ?_
     rintro fr5 ⟨s0, s1, s4, s5, s6, s7, s13, s16, s17, s18, s19, _⟩
     refine cw_exit ?_
     refine kThen_exit (kThen_exit (kBlk_hit ?_))
     refine cw_seq (sR ?_)
     refine rM rfl s0 <| rM rfl s1 <| rw_q rfl (ev_slice_rd (i := (n : Int)) (j := (b.length : Int)) (Rd.ofRest hb hm3) uT23 ti5 rfl (optI_some (k := .i64) (i := (n : Int)) rfl) (optI_none _ _) oM sL sL) <| rw_q rfl (ev_assign (v := (subv vb (n : Int) (b.length : Int))) rfl) ?_
     refine rN (sR ?_)
     refine rM rfl s7 <| rw_q rfl (ev_move (v := (subv vb (n : Int) (b.length : Int))) rfl) <| rw_q (v := (i64 (((b.drop ((n : Int) : Int).toNat).take (((b.length : Int) : Int).toNat - ((n : Int) : Int).toNat)).length : Int))) rfl (ev_len_rd (Rd.cast (l' := (b.drop ((n : Int) : Int).toNat).take (((b.length : Int) : Int).toNat - ((n : Int) : Int).toNat)) (Rd.sub (Rd.ofRest hb hm3) oM sL sL) rfl) uT23 rfl) <| rw_q rfl (ev_i64_gtr rfl rfl) <| rN ?_
     have hd6 : (decide ((((b.drop ((n : Int) : Int).toNat).take (((b.length : Int) : Int).toNat - ((n : Int) : Int).toNat)).length : Int) < (tkN b n : Int))) = false := decide_eq_false (by have h1 := tk_t htk; simp only [List.length_drop, List.length_take]; omega)
     refine cw_cond_f rfl hd6 ?_
     refine cw_skip (kThen_normal (cw_seq ?_))
     refine cw_draw [(0, false), (1, false), (2, false), (3, false), (4, false), (5, false), (6, false)] 7 (by kernel_rfl) <| dw_q rfl rfl (fun _ _hx => ev_move (v := (subv vb (n : Int) (b.length : Int))) rfl) <| dM rfl rfl s7 <| dw_q rfl rfl (fun _ _hx => ev_slice_rd (i := 0) (j := (tkN b n : Int)) (Rd.cast (l' := (b.drop ((n : Int) : Int).toNat).take (((b.length : Int) : Int).toNat - ((n : Int) : Int).toNat)) (Rd.sub (Rd.ofRest hb (hm3.ext _hx)) oM sL sL) rfl) uT23 ti5 rfl (optI_none _ _) (optI_some (k := .i64) (i := (tkN b n : Int)) rfl) oM sL sL) <| dw_q rfl rfl (fun _ _hx => ev_move (v := (subv vb (n : Int) (b.length : Int))) rfl) <| dM rfl rfl s7 ?_
     refine dw_q rfl rfl (fun _ _hx => ev_slice_rd (i := (tkN b n : Int)) (j := (((b.drop ((n : Int) : Int).toNat).take (((b.length : Int) : Int).toNat - ((n : Int) : Int).toNat)).length : Int)) (Rd.cast (l' := (b.drop ((n : Int) : Int).toNat).take (((b.length : Int) : Int).toNat - ((n : Int) : Int).toNat)) (Rd.sub (Rd.ofRest hb (hm3.ext _hx)) oM sL sL) rfl) uT23 ti5 rfl (optI_some (k := .i64) (i := (tkN b n : Int)) rfl) (optI_none _ _) oM sL sL) <| dw_q rfl rfl (fun _ _hx => ev_assign (v := (subv (subv vb (n : Int) (b.length : Int)) 0 (tkN b n : Int))) rfl) ?_
     refine dw_nil (fun w7 _ew7 => ?_)
     have hm7 := hm3.ext _ew7
     refine rA rfl rfl <| rw_q rfl (ev_assign (v := (bl true)) rfl) <| rN ?_
     refine CW.abs (fun g => g 0 = (subv vb (n : Int) (b.length : Int)) ∧ g 1 = (i64 (n : Int)) ∧ g 4 = (subv (subv vb (n : Int) (b.length : Int)) 0 (tkN b n : Int)) ∧ g 5 = (subv (subv vb (n : Int) (b.length : Int)) (tkN b n : Int) (((b.drop ((n : Int) : Int).toNat).take (((b.length : Int) : Int).toNat - ((n : Int) : Int).toNat)).length : Int)) ∧ g 6 = (bl true) ∧ g 7 = (i64 (tkN b n : Int)) ∧ g 13 = (bl (decide ((b.length : Int) < (n : Int)))) ∧ g 16 = (subv vb 0 (n : Int)) ∧ g 17 = (i64 (((b.drop (0 : Int).toNat).take (((n : Int) : Int).toNat - (0 : Int).toNat)).length : Int)) ∧ g 18 = (i64 (k : Int)) ∧ g 19 = (bl (decide ((k : Int) < (((b.drop (0 : Int).toNat).take (((n : Int) : Int).toNat - (0 : Int).toNat)).length : Int)))) ∧ g 34 = (bl (decide ((((b.drop ((n : Int) : Int).toNat).take (((b.length : Int) : Int).toNat - ((n : Int) : Int).toNat)).length : Int) < (tkN b n : Int)))) ∧ True) ⟨rfl, s1, rfl, rfl, rfl, s7, s13, s16, s17, s18, s19, rfl, trivial⟩ ?_
     rintro fr8 ⟨s0, s1, s4, s5, s6, s7, s13, s16, s17, s18, s19, s34, _⟩
     refine cw_ret <| fnPost_ret [(subv (subv vb (n : Int) (b.length : Int)) 0 (tkN b n : Int)), (subv (subv vb (n : Int) (b.length : Int)) (tkN b n : Int) (((b.drop ((n : Int) : Int).toNat).take (((b.length : Int) : Int).toNat - ((n : Int) : Int).toNat)).length : Int)), (bl true)] ⟨s4, s5, s6, trivial⟩ ?_
     exact ⟨by unfold tkP tkR; rw [show ((b.length - n : Nat) : Int) = (((b.drop (n : Int).toNat).take ((b.length : Int).toNat - (n : Int).toNat)).length : Int) by simp only [List.length_drop, List.length_take]; omega]; rfl, hm7.toExt⟩


end --m
end Go.Proofs.Ytfbnhoolkajebaa
