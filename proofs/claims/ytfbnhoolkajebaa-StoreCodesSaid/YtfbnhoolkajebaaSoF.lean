/- Equality of pairs: its contract. Conditions: none beyond those that each theorem states. -/
import Derived.Test.YtfbnhoolkajebaaSoE
namespace Go.Proofs.Ytfbnhoolkajebaa
set_option linter.unusedVariables false
set_option linter.unusedSimpArgs false
attribute [local irreducible] natB tkN tkOk kN vN_ oneOk oneR decF decP decV decE rightB encK recP num2 num4 allR goneB encV encE encL encS doO openK openS okS doK commitF lkA keysB
set_option maxHeartbeats 2000000 in
theorem c_samepairs (va : Value) (la : List PairT) (vb : Value) (lb : List PairT) (w0 : World)  (hra : RdK (blks w0) encP 3 va la) (hqa : ∀ a ∈ la, Rd (blks w0) u8 (slv a.val) a.val.2) (hrb : RdK (blks w0) encP 3 vb lb) (hqb : ∀ a ∈ lb, Rd (blks w0) u8 (slv a.val) a.val.2) (hM : la.map oneOf = lb.map oneOf) (hln : la.length ≤ 1048576) (hle : ∀ a ∈ la, a.val.2.length ≤ 1048576) : CallsR Try.prog 37 #[va, vb] w0 (fun r w1 => r = (bl true) ∧ Ext w0 w1) := by
 refine callsR_of_cw (args := [va, vb]) Try.func37 rfl Try.ntmps37 Try.results37 rfl ?_
 have hm0 : Mem w0 (restOf w0) [] := Mem.of_world w0
 have hlm := congrArg List.length hM; rw [List.length_map, List.length_map] at hlm
 refine sR <| rw_q rfl (ev_assign (v := (bl false)) rfl) ?_
 refine rN (cw_seq (sR ?_))
 refine rM rfl (v := va) rfl <| rw_q (v := (i64 (la.length : Int))) rfl (ev_len_rk (RdK.ofRest hra hm0) uT55 rfl) <| rM rfl (v := vb) rfl <| rw_q (v := (i64 (lb.length : Int))) rfl (ev_len_rk (RdK.ofRest hrb hm0) uT55 rfl) <| rw_q rfl (ev_i64_neq rfl rfl) <| rN ?_
 have hd1 : ((la.length : Int) != (lb.length : Int)) = false := (by rw [hlm]; simp)
 refine cw_cond_f rfl hd1 ?_
 refine cw_skip (kThen_normal (cw_seq (sR ?_)))
 refine rw_q rfl (ev_assign (v := (i64 0)) rfl) ?_
 refine rN (cw_block ?_)
 refine cw_loop (fun g wv => ∃ (k : Nat), (k ≤ la.length) ∧ g 0 = va ∧ g 1 = vb ∧ g 5 = (i64 (k : Int)) ∧ g 10 = (bl ((la.length : Int) != (lb.length : Int))) ∧ Mem wv (restOf w0) []) (fun g wv => ((la.length : Int) - RowKit.intOf (g 5)).toNat) ?_ ?_
 · exact ⟨0, (Nat.zero_le _), rfl, rfl, rfl, rfl, hm0⟩
 · rintro fr2 w3 ⟨k, hk, s0, s1, s5, s10, hm3⟩
   have z5 := s5
   refine cw_seq (sR ?_)
   refine rM rfl s5 <| rM rfl s0 <| rw_q (v := (i64 (la.length : Int))) rfl (ev_len_rk (RdK.ofRest hra hm3) uT55 rfl) <| rw_q rfl (ev_i64_lss rfl rfl) <| rN ?_
   refine cw_cond rfl (fun hc4 => ?_) (fun hc4 => ?_)
   · -- true
     have hc4p := of_decide_eq_true hc4
     have hsp := samePs hM (k := k) oM
     have hek := hle _ (getD_mem (d := pair0) (show k < la.length by omega))
     refine cw_skip (kThen_normal (cw_seq (cw_block (cw_seq ?_))))
     refine cw_draw [(0, false), (1, false), (2, false), (3, false), (4, false), (5, false), (6, false), (7, false), (8, false), (9, false), (10, false), (11, false), (12, false), (13, false), (14, false), (15, false), (16, false), (17, false), (18, false), (19, false), (20, false), (21, false), (22, false), (23, false), (24, false), (25, false), (26, false), (27, false), (28, false), (29, false), (30, false), (31, false), (32, false), (33, false), (34, false)] 35 (by kernel_rfl) <| dM rfl rfl s0 <| dM rfl rfl s5 <| dw_q rfl rfl (fun _ _hx => ev_indexAddr_rk (i := (k : Int)) (RdK.ofRest hra (hm3.ext _hx)) uT55 ti79 rfl rfl oM sL) <| dw_q rfl rfl (fun _ _hx => ev_fa_rk (i := (k : Int)) (RdK.ofRest hra (hm3.ext _hx)) sL uT79 rfl (by first | rfl | omega) ti9 rfl rfl) <| dw_q (v := (Value.string ((la.getD k pair0).key))) rfl rfl (fun _ _hx => ev_load_rk1 (i := (k : Int)) (dflt := pair0) (u := (Value.string ((la.getD k pair0).key))) (RdK.ofRest hra (hm3.ext _hx)) sL uT9 rfl rfl (by decide) rfl) ?_
     refine dM rfl rfl s1 <| dM rfl rfl s5 <| dw_q rfl rfl (fun _ _hx => ev_indexAddr_rk (i := (k : Int)) (RdK.ofRest hrb (hm3.ext _hx)) uT55 ti79 rfl rfl oM sL) <| dw_q rfl rfl (fun _ _hx => ev_fa_rk (i := (k : Int)) (RdK.ofRest hrb (hm3.ext _hx)) sL uT79 rfl (by first | rfl | omega) ti9 rfl rfl) <| dw_q (v := (Value.string ((lb.getD k pair0).key))) rfl rfl (fun _ _hx => ev_load_rk1 (i := (k : Int)) (dflt := pair0) (u := (Value.string ((lb.getD k pair0).key))) (RdK.ofRest hrb (hm3.ext _hx)) sL uT9 rfl rfl (by decide) rfl) <| dw_q rfl rfl (fun _ _hx => ev_str_neq (s := (la.getD k pair0).key) (t := (lb.getD k pair0).key) rfl rfl) ?_
     refine dw_q rfl rfl (fun _ _hx => ev_move (v := (bl (!decide ((la.getD k pair0).key = (lb.getD k pair0).key)))) rfl) ?_
     have hd5 : (!decide ((la.getD k pair0).key = (lb.getD k pair0).key)) = false := (by rw [hsp.1]; simp)
     refine dw_gqy (s := 28) rfl rfl rfl hd5 rfl (fun _ _hx => ev_move s0) <| dw_gqy (s := 28) rfl rfl rfl hd5 rfl (fun _ _hx => ev_move s5) <| dw_gqy (s := 28) rfl rfl rfl hd5 rfl (fun _ _hx => ev_indexAddr_rk (i := (k : Int)) (RdK.ofRest hra (hm3.ext _hx)) uT55 ti79 rfl rfl oM sL) <| dw_gqy (s := 28) rfl rfl rfl hd5 rfl (fun _ _hx => ev_fa_rk (i := (k : Int)) (RdK.ofRest hra (hm3.ext _hx)) sL uT79 rfl (by first | rfl | omega) ti4 rfl rfl) <| dw_gqy (s := 28) rfl rfl rfl hd5 rfl (fun _ _hx => ev_load_rk1 (i := (k : Int)) (dflt := pair0) (u := (bl ((la.getD k pair0).gone))) (RdK.ofRest hra (hm3.ext _hx)) sL uT4 rfl rfl (by decide) rfl) <| dw_gqy (s := 28) rfl rfl rfl hd5 rfl (fun _ _hx => ev_move s1) ?_
     refine dw_gqy (s := 28) rfl rfl rfl hd5 rfl (fun _ _hx => ev_move s5) <| dw_gqy (s := 28) rfl rfl rfl hd5 rfl (fun _ _hx => ev_indexAddr_rk (i := (k : Int)) (RdK.ofRest hrb (hm3.ext _hx)) uT55 ti79 rfl rfl oM sL) <| dw_gqy (s := 28) rfl rfl rfl hd5 rfl (fun _ _hx => ev_fa_rk (i := (k : Int)) (RdK.ofRest hrb (hm3.ext _hx)) sL uT79 rfl (by first | rfl | omega) ti4 rfl rfl) <| dw_gqy (s := 28) rfl rfl rfl hd5 rfl (fun _ _hx => ev_load_rk1 (i := (k : Int)) (dflt := pair0) (u := (bl ((lb.getD k pair0).gone))) (RdK.ofRest hrb (hm3.ext _hx)) sL uT4 rfl rfl (by decide) rfl) <| dw_gqy (s := 28) rfl rfl rfl hd5 rfl (fun _ _hx => ev_bool_neq uT4 rfl rfl) <| dw_q rfl rfl (fun _ _hx => ev_pick_fk rfl hd5 rfl) ?_
     refine dw_q rfl rfl (fun _ _hx => ev_move (v := (bl (((la.getD k pair0).gone) != ((lb.getD k pair0).gone)))) rfl) ?_
     have hd6 : (((la.getD k pair0).gone) != ((lb.getD k pair0).gone)) = false := (by rw [hsp.2.1]; simp)
     refine dw_gqy (s := 41) rfl rfl rfl hd6 rfl (fun _ _hx => ev_move s0) <| dw_gqy (s := 41) rfl rfl rfl hd6 rfl (fun _ _hx => ev_move s5) <| dw_gqy (s := 41) rfl rfl rfl hd6 rfl (fun _ _hx => ev_indexAddr_rk (i := (k : Int)) (RdK.ofRest hra (hm3.ext _hx)) uT55 ti79 rfl rfl oM sL) <| dw_gqy (s := 41) rfl rfl rfl hd6 rfl (fun _ _hx => ev_fa_rk (i := (k : Int)) (RdK.ofRest hra (hm3.ext _hx)) sL uT79 rfl (by first | rfl | omega) ti23 rfl rfl) <| dw_gqy (s := 41) rfl rfl rfl hd6 rfl (fun _ _hx => ev_load_rk1 (i := (k : Int)) (dflt := pair0) (u := (slv (la.getD k pair0).val)) (RdK.ofRest hra (hm3.ext _hx)) sL uT23 rfl rfl (by decide) rfl) <| dw_gqy (s := 41) rfl rfl rfl hd6 rfl (fun _ _hx => ev_move s1) ?_
     refine dw_gqy (s := 41) rfl rfl rfl hd6 rfl (fun _ _hx => ev_move s5) <| dw_gqy (s := 41) rfl rfl rfl hd6 rfl (fun _ _hx => ev_indexAddr_rk (i := (k : Int)) (RdK.ofRest hrb (hm3.ext _hx)) uT55 ti79 rfl rfl oM sL) <| dw_gqy (s := 41) rfl rfl rfl hd6 rfl (fun _ _hx => ev_fa_rk (i := (k : Int)) (RdK.ofRest hrb (hm3.ext _hx)) sL uT79 rfl (by first | rfl | omega) ti23 rfl rfl) <| dw_gqy (s := 41) rfl rfl rfl hd6 rfl (fun _ _hx => ev_load_rk1 (i := (k : Int)) (dflt := pair0) (u := (slv (lb.getD k pair0).val)) (RdK.ofRest hrb (hm3.ext _hx)) sL uT23 rfl rfl (by decide) rfl) ?_
     refine dw_nil (fun w7 _ew7 => ?_)
     have hm7 := hm3.ext _ew7
     refine rw_gy (s := 41) rfl rfl hd6 rfl (opR_call Try.func36 bd36 nm36 (args2 rfl rfl) (c_same (slv (la.getD k pair0).val) (slv (lb.getD k pair0).val) ((la.getD k pair0).val.2) ((lb.getD k pair0).val.2) _ (Rd.ofRest (rdQ PairT.val hqa (k := k) sD) hm7) (Rd.ofRest (rdQ PairT.val hqb (k := k) sD) hm7) sL)) ?_
     rintro _ w8 ⟨rfl, _ew8⟩
     have hm8 := hm7.ext _ew8
     refine rw_gyq (s := 41) rfl rfl hd6 rfl (ev_not rfl) <| rw_q rfl (ev_pick_fk rfl hd6 rfl) <| rN ?_
     refine CW.abs (fun g => g 0 = va ∧ g 1 = vb ∧ g 5 = (i64 (k : Int)) ∧ g 10 = (bl ((la.length : Int) != (lb.length : Int))) ∧ g 14 = (bl (decide ((k : Int) < (la.length : Int)))) ∧ g 54 = (bl (!(((la.getD k pair0).val.2) == ((lb.getD k pair0).val.2)))) ∧ True) ⟨s0, s1, s5, s10, rfl, rfl, trivial⟩ ?_
     rintro fr10 ⟨s0, s1, s5, s10, s14, s54, _⟩
     have hd11 : (((la.getD k pair0).val.2) == ((lb.getD k pair0).val.2)) = true := (by rw [hsp.2.2]; simp)
     have hd12 : (!(((la.getD k pair0).val.2) == ((lb.getD k pair0).val.2))) = false := congrArg Bool.not hd11
     refine cw_cond_f s54 hd12 ?_
     refine cw_skip (kBlk_normal (cw_region ?_))
     refine rM rfl s5 <| rw_q rfl (ev_i64_add (b := 1) rfl rfl oM oM) <| rw_q rfl (ev_assign (v := (i64 ((k : Int) + 1))) rfl) <| rN ?_
     exact ⟨⟨(k + 1), oM, s0, s1, rfl, s10, hm8⟩, meas (rfl) z5 oM oM⟩
   · -- false
     have hc4p := of_decide_eq_false hc4
     refine cw_exit ?_
     refine kThen_exit (kThen_exit (kBlk_hit ?_))
     refine sR <| rw_q rfl (ev_assign (v := (bl true)) rfl) ?_
     refine rN (cw_ret ?_)
     refine fnPost_ret [(bl true)] ⟨rfl, trivial⟩ ?_
     exact ⟨rfl, hm3.toExt⟩


end Go.Proofs.Ytfbnhoolkajebaa
