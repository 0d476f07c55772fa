/- Contracts: what begins with what; pairs done to values. Conditions: none beyond those that each theorem states. -/
import Derived.Test.YtfbnhoolkajebaaSo9
namespace Go.Proofs.Ytfbnhoolkajebaa
set_option linter.unusedVariables false
set_option linter.unusedSimpArgs false
/-- Pairs done to values. -/
def doK (S : List KV) (l : List PairT) : Nat → List KV
  | 0 => S
  | k + 1 => if (l.getD k pair0).gone then delK (doK S l k) (l.getD k pair0).key else insK (doK S l k) (l.getD k pair0).key (l.getD k pair0).val.2
theorem doK_d {S : List KV} {l : List PairT} {k : Nat} (h : (l.getD k pair0).gone = true) : doK S l (k + 1) = delK (doK S l k) (l.getD k pair0).key := by show (if _ then _ else _) = _; rw [if_pos h]
theorem doK_i {S : List KV} {l : List PairT} {k : Nat} (h : (l.getD k pair0).gone = false) : doK S l (k + 1) = insK (doK S l k) (l.getD k pair0).key (l.getD k pair0).val.2 := by show (if _ then _ else _) = _; rw [if_neg (by rw [h]; decide)]
theorem doK_sort {S : List KV} (h : SortK S) (l : List PairT) : ∀ k, SortK (doK S l k)
  | 0 => h
  | k + 1 => by
    show SortK (if _ then _ else _)
    split
    · exact delK_sort (doK_sort h l k)
    · exact insK_sort (doK_sort h l k)
theorem hq_nil {m : Nat → Option Obj} : ∀ a ∈ ([] : List PairT), Rd m u8 (slv a.val) a.val.2 := fun a h => by cases h
theorem hq_cons {m : Nat → Option Obj} {k : ByteArray} {v : Value} {l : List (BitVec 8)} {g : Bool} {ps : List PairT} (h : Rd m u8 v l) (hr : ∀ a ∈ ps, Rd m u8 (slv a.val) a.val.2) : ∀ a ∈ PairT.mk k (toSl v l) g :: ps, Rd m u8 (slv a.val) a.val.2 := fun a ha => by
  rcases List.mem_cons.1 ha with ha | ha
  · subst ha; show Rd m u8 (slv (toSl v l)) (toSl v l).2; rw [h.toSl, toSl_snd]; exact h
  · exact hr a ha
theorem flat_at {α : Type} {enc : α → List Value} {k : Nat} : ∀ {l : List α}, (∀ a ∈ l, (enc a).length = k) → ∀ i (hi : i < l.length) q, q < k → ((l.map enc).flatten)[i * k + q]? = (enc l[i])[q]?
  | [], _, i, hi, _, _ => by simp at hi
  | a :: l, h, 0, hi, q, hq => by
    have ha := h a List.mem_cons_self
    simp only [List.map_cons, List.flatten_cons, Nat.zero_mul, Nat.zero_add, List.getElem_cons_zero]
    rw [List.getElem?_append_left oM]
  | a :: l, h, i + 1, hi, q, hq => by
    have ha := h a List.mem_cons_self
    simp only [List.map_cons, List.flatten_cons, List.getElem_cons_succ]
    have e : (i + 1) * k + q - (enc a).length = i * k + q := by rw [ha, Nat.add_mul]; omega
    rw [List.getElem?_append_right (by rw [ha, Nat.add_mul]; omega), e]
    exact flat_at (fun b hb => h b (List.mem_cons_of_mem _ hb)) i (by simpa using hi) q hq
theorem RdK.ofAll {α : Type} {m : Nat → Option Obj} {enc : α → List Value} {k : Nat} {l : List α} {b : Nat} {c : Array Value} {E : TypeId} {fz : Nat × Nat} (hb : m b = some (.cells c E fz)) (hc : c = ((l.map enc).flatten).toArray) (hl : ∀ a ∈ l, (enc a).length = k) : RdK m enc k (slc b 0 l.length l.length) l := by
  subst hc
  refine RdK.mk' (l := l) hl (Nat.le_refl _) hb fun i hi q hq => ?_
  rw [Nat.zero_add, List.getElem?_toArray]
  exact flat_at hl i hi q hq

set_option maxHeartbeats 2000000 in
theorem c_hasprefix (s p : ByteArray) (w0 : World)   : CallsR Try.prog 81 #[(Value.string s), (Value.string p)] w0 (fun r w1 => r = (bl (preB p s)) ∧ Ext w0 w1) := by
 refine callsR_of_cw (args := [(Value.string s), (Value.string p)]) Try.func81 rfl Try.ntmps81 Try.results81 rfl ?_
 have hm0 : Mem w0 (restOf w0) [] := Mem.of_world w0
 refine sR <| rw_q rfl (ev_assign (v := (bl false)) rfl) ?_
 refine rN (sR ?_)
 refine rw_q rfl (ev_move (v := (Value.string s)) rfl) <| rw_q (v := (i64 (s.size : Int))) rfl (ev_len_str uT9 rfl) <| rw_q rfl (ev_move (v := (Value.string p)) rfl) <| rw_q (v := (i64 (p.size : Int))) rfl (ev_len_str uT9 rfl) <| rw_q rfl (ev_i64_geq rfl rfl) <| rw_q rfl (ev_move (v := (bl (decide ((p.size : Int) ≤ (s.size : Int))))) rfl) ?_
 rcases Bool.eq_false_or_eq_true (decide ((p.size : Int) ≤ (s.size : Int))) with hb1 | hb1
 · -- true
   have hb1p := of_decide_eq_true hb1
   refine rw_gyq (s := 10) rfl rfl hb1 rfl (ev_move (v := (Value.string s)) rfl) <| rw_gyq (s := 10) rfl rfl hb1 rfl (ev_move (v := (Value.string p)) rfl) <| rw_gyq (s := 10) rfl rfl hb1 rfl (ev_len_str uT9 rfl) <| rw_gyq (s := 10) rfl rfl hb1 rfl (ev_slice_strh uT9 rfl rfl sL sL) <| rw_gyq (s := 10) rfl rfl hb1 rfl (ev_move (v := (Value.string p)) rfl) <| rw_gyq (s := 10) rfl rfl hb1 rfl (ev_str_eql (s := (s.extract 0 ((p.size : Int) : Int).toNat)) (t := p) rfl rfl) ?_
   refine rw_q rfl (ev_pick_tk rfl hb1 rfl) <| rw_q rfl (ev_assign (v := (bl (decide ((s.extract 0 ((p.size : Int) : Int).toNat) = p)))) rfl) ?_
   refine rN (cw_ret ?_)
   refine fnPost_ret [(bl (decide ((s.extract 0 ((p.size : Int) : Int).toNat) = p)))] ⟨rfl, trivial⟩ ?_
   exact ⟨congrArg bl (by unfold preB; rw [if_pos hb1]; rfl), hm0.toExt⟩
 · -- false
   have hb1p := of_decide_eq_false hb1
   refine rw_gn (s := 10) rfl rfl hb1 rfl <| rw_gn (s := 10) rfl rfl hb1 rfl <| rw_gn (s := 10) rfl rfl hb1 rfl <| rw_gn (s := 10) rfl rfl hb1 rfl <| rw_gn (s := 10) rfl rfl hb1 rfl <| rw_gn (s := 10) rfl rfl hb1 rfl ?_
   refine rw_q rfl (ev_pick_fk rfl hb1 rfl) <| rw_q rfl (ev_assign (v := (bl false)) rfl) ?_
   refine rN (cw_ret ?_)
   refine fnPost_ret [(bl false)] ⟨rfl, trivial⟩ ?_
   exact ⟨congrArg bl (by unfold preB; rw [hb1]; rfl), hm0.toExt⟩

set_option maxHeartbeats 2000000 in
theorem c_hasprefix2 (s p : ByteArray) (w0 : World)   : CallsR Try.prog 65 #[(Value.string s), (Value.string p)] w0 (fun r w1 => r = (bl (preB p s)) ∧ Ext w0 w1) := by
 refine callsR_of_cw (args := [(Value.string s), (Value.string p)]) Try.func65 rfl Try.ntmps65 Try.results65 rfl ?_
 have hm0 : Mem w0 (restOf w0) [] := Mem.of_world w0
 refine sR <| rw_q rfl (ev_assign (v := (bl false)) rfl) ?_
 refine rN (sR ?_)
 refine rw_q rfl (ev_move (v := (Value.string s)) rfl) <| rw_q rfl (ev_move (v := (Value.string p)) rfl) <| rw_c rfl (opR_call Try.func81 bd81 nm81 (args2 rfl rfl) (c_hasprefix s p _)) ?_
 rintro _ w1 ⟨rfl, _ew1⟩
 have hm1 := hm0.ext _ew1
 refine rw_q rfl (ev_assign (v := (bl (preB p s))) rfl) ?_
 refine rN (cw_ret ?_)
 refine fnPost_ret [(bl (preB p s))] ⟨rfl, trivial⟩ ?_
 exact ⟨rfl, hm1.toExt⟩

set_option maxHeartbeats 2000000 in
theorem c_sdo (m0 : Nat → Option Obj) (b : Nat) (S : List KV) (Hs : List (Nat × Obj)) (vp : Value) (lp : List PairT) (w0 : World) (R : Rest) (hm0 : Mem w0 R (Hs ++ ([]))) (gm : MapG m0 b S Hs) (hrp : RdK R.blk encP 3 vp lp) (hqp : ∀ a ∈ lp, Rd R.blk u8 (slv a.val) a.val.2) (hlp : lp.length ≤ 1048576) (hep : ∀ a ∈ lp, a.key.size ≤ 1048576 ∧ a.val.2.length ≤ 1048576) : CallsR Try.prog 62 #[(Value.map (some b)), vp] w0 (fun r w1 => ∃ H2, r = .tuple #[] ∧ MapG m0 b (doK S lp lp.length) H2 ∧ Mem w1 R H2) := by
 refine callsR_of_cw (args := [(Value.map (some b)), vp]) Try.func62 rfl Try.ntmps62 Try.results62 rfl <| sR <| rM rfl (v := vp) rfl <| rw_q (v := (i64 (lp.length : Int))) rfl (ev_len_rk (RdK.ofRest hrp hm0) uT55 rfl) <| rw_q rfl (ev_move (v := (i64 0)) rfl) ?_
 refine rN (cw_block' ?_)
 refine cw_loop (fun g wv => ∃ (k : Nat) (H1 : List (Nat × Obj)), (k ≤ lp.length) ∧ (MapG m0 b (doK S lp k) H1) ∧ g 0 = (Value.map (some b)) ∧ g 1 = vp ∧ g 6 = vp ∧ g 7 = (i64 (lp.length : Int)) ∧ g 8 = (i64 (k : Int)) ∧ Mem wv R (H1 ++ ([]))) (fun g wv => ((lp.length : Int) - RowKit.intOf (g 8)).toNat) ?_ ?_
 · exact ⟨0, Hs, (Nat.zero_le _), gm, rfl, rfl, rfl, rfl, rfl, (by
   have hT := hm0
   try simp only [List.append_assoc, List.cons_append, List.nil_append, List.append_nil] at hT ⊢
   exact hT)⟩
 · rintro fr1 w2 ⟨k, H1, hk, g1, s0, s1, s6, s7, s8, hm2⟩
   have z0 := s0
   have z8 := s8
   refine sR <| rw_q rfl (ev_i64_lss s8 s7) ?_
   refine rN (cw_seq ?_)
   refine cw_cond rfl (fun hc3 => ?_) (fun hc3 => ?_)
   · -- true
     have hc3p := of_decide_eq_true hc3
     have hek := hep _ (getD_mem (d := pair0) (show k < lp.length by omega))
     refine cw_skip (kThen_normal (cw_seq (cw_block (sR ?_))))
     refine rw_q rfl (ev_indexAddr_rk (i := (k : Int)) (RdK.ofRest hrp hm2) uT55 ti79 s6 s8 oM sL) <| rw_q (v := (Value.agg #[(Value.string ((lp.getD k pair0).key)), (slv (lp.getD k pair0).val), (bl ((lp.getD k pair0).gone))])) rfl (ev_load_rkA (i := (k : Int)) (dflt := pair0) (cs := #[(Value.string ((lp.getD k pair0).key)), (slv (lp.getD k pair0).val), (bl ((lp.getD k pair0).gone))]) (RdK.ofRest hrp hm2) sL uT79 rfl ti79 rfl rfl (by decide) rfl) <| rw_c rfl (or_allocX hm2 ti79) ?_
     rintro _ w4 ⟨b5, rfl, _ew4, hm4⟩
     refine rw_n (or_storeW (cs := #[(Value.string ((lp.getD k pair0).key)), (slv (lp.getD k pair0).val), (bl ((lp.getD k pair0).gone))]) ti79 rfl rfl (by kernel_rfl) (one_arr (one_cons rfl (one_cons rfl (one_cons rfl one_nil)))) hm4.h0 (by kernel_rfl) rfl) ?_
     rintro _ w5 uq5
     have hm5 : Mem w5 R ([(b5, .cells #[(Value.string ((lp.getD k pair0).key)), (slv (lp.getD k pair0).val), (bl ((lp.getD k pair0).gone))] 79 (0, 0))] ++ (H1 ++ ([]))) := hm4.upd0 uq5
     refine rN (cw_seq (sR ?_))
     refine rw_q rfl (ev_fa (r := 2) uT79 rfl (by first | rfl | omega) ti4 rfl rfl) <| rw_q (v := (bl ((lp.getD k pair0).gone))) rfl (ev_load1 uT4 rfl rfl hm5.h0 rfl) <| rN ?_
     refine cw_cond rfl (fun hc6 => ?_) (fun hc6 => ?_)
     · -- true
       refine sR <| rM rfl s0 <| rw_q rfl (ev_fa (r := 0) uT79 rfl (by first | rfl | omega) ti9 rfl rfl) <| rw_q (v := (Value.string ((lp.getD k pair0).key))) rfl (ev_load1 uT9 rfl rfl hm5.h0 rfl) <| rw_n (or_deleteG (k := (lp.getD k pair0).key) (Hs := H1) (H := [(b5, .cells #[(Value.string ((lp.getD k pair0).key)), (slv (lp.getD k pair0).val), (bl ((lp.getD k pair0).gone))] 79 (0, 0))]) g1 (Mem.pick [_] H1 _ hm5) uT116 uT9 rfl rfl) ?_
       rintro _ w7 ⟨rfl, Hs7, hG7, hm7⟩
       refine rN (cw_exit ?_)
       refine kThen_exit (kBlk_hit ?_)
       refine cw_region <| rw_q rfl (ev_i64_add (b := 1) s8 rfl oM oM) <| rw_q rfl (ev_move (v := (i64 ((k : Int) + 1))) rfl) <| rN ?_
       have hm8 := Mem.drop ([(b5, .cells #[(Value.string ((lp.getD k pair0).key)), (slv (lp.getD k pair0).val), (bl ((lp.getD k pair0).gone))] 79 (0, 0))]) _ (Mem.pick Hs7 [_] _ hm7)
       exact ⟨⟨(k + 1), Hs7, oM, (by rw [doK_d (by simpa using hc6)]; exact hG7), s0, s1, s6, s7, rfl, hm8⟩, meas (rfl) z8 oM oM⟩
     · -- false
       refine cw_skip (kThen_normal ?_)
       refine cw_draw [(0, false), (1, false), (2, false), (3, false), (4, false), (5, true)] 6 (by kernel_rfl) <| dM rfl rfl s0 <| dw_q rfl rfl (fun _ _hx => ev_fa (r := 0) uT79 rfl (by first | rfl | omega) ti9 rfl rfl) <| dw_q (v := (Value.string ((lp.getD k pair0).key))) rfl rfl (fun _ _hx => ev_load1 uT9 rfl rfl (hm5.ext _hx).h0 rfl) <| dw_q rfl rfl (fun _ _hx => ev_fa (r := 1) uT79 rfl (by first | rfl | omega) ti23 rfl rfl) <| dw_q (v := (slv (lp.getD k pair0).val)) rfl rfl (fun _ _hx => ev_load1 uT23 rfl rfl (hm5.ext _hx).h0 rfl) ?_
       refine dw_c rfl rfl (fun w9 _ew9 => ?_)
       have hm9 := hm5.ext _ew9
       refine OpR.mono (opR_call Try.func54 bd54 nm54 (args1 rfl) (c_clone (slv (lp.getD k pair0).val) ((lp.getD k pair0).val.2) _ (Rd.ofRest (rdQ PairT.val hqp (k := k) sD) hm9) sL)) ?_
       rintro rq11 w10 ⟨Hsq11, grq11, k_w10⟩
       refine ⟨k_w10.toExt, ?_⟩
       have hm10 : Mem w10 R (Hsq11 ++ ([(b5, .cells #[(Value.string ((lp.getD k pair0).key)), (slv (lp.getD k pair0).val), (bl ((lp.getD k pair0).gone))] 79 (0, 0))] ++ (H1 ++ ([])))) := Mem.new (H := [(b5, .cells #[(Value.string ((lp.getD k pair0).key)), (slv (lp.getD k pair0).val), (bl ((lp.getD k pair0).gone))] 79 (0, 0))] ++ (H1 ++ ([]))) (H' := Hsq11) hm9 k_w10
       refine dw_nil (fun w12 _ew12 => ?_)
       have hm12 := hm10.ext _ew12
       refine rw_n (or_mapUpdateG (k := (lp.getD k pair0).key) (Hs := H1) (Hv := Hsq11) (H := [(b5, .cells #[(Value.string ((lp.getD k pair0).key)), (slv (lp.getD k pair0).val), (bl ((lp.getD k pair0).gone))] 79 (0, 0))]) g1 grq11 (show Mem _ _ (H1 ++ (Hsq11 ++ [(b5, .cells #[(Value.string ((lp.getD k pair0).key)), (slv (lp.getD k pair0).val), (bl ((lp.getD k pair0).gone))] 79 (0, 0))])) from (Mem.pick2 Hsq11 [_] H1 _ hm12)) uT116 uT9 rfl rfl rfl) ?_
       rintro _ w13 ⟨Hs13, hG13, hm13⟩
       refine rw_nil (kBlk_normal (cw_region ?_))
       refine rw_q rfl (ev_i64_add (b := 1) s8 rfl oM oM) <| rw_q rfl (ev_move (v := (i64 ((k : Int) + 1))) rfl) <| rN ?_
       have hm14 := Mem.drop ([(b5, .cells #[(Value.string ((lp.getD k pair0).key)), (slv (lp.getD k pair0).val), (bl ((lp.getD k pair0).gone))] 79 (0, 0))]) _ (Mem.pick Hs13 [_] _ hm13)
       exact ⟨⟨(k + 1), Hs13, oM, (by rw [doK_i (by simpa using hc6)]; exact hG13), s0, s1, s6, s7, rfl, hm14⟩, meas (rfl) z8 oM oM⟩
   · -- false
     have hc3p := of_decide_eq_false hc3
     refine cw_exit ?_
     refine kThen_exit (kThen_exit (kBlk_hit ?_))
     refine fnPost_normal [] trivial ?_
     have hkl : k = lp.length := by omega
     rw [← hkl]
     exact ⟨_, rfl, g1, by simpa using hm2⟩


end Go.Proofs.Ytfbnhoolkajebaa
