/- Contract of the document's disk: crash. Conditions: none beyond those that each theorem states. -/
import Derived.Test.YtfmjfojhcmmgcaaDk8
namespace Go.Proofs.Ytfmjfojhcmmgcaa
set_option linter.unusedVariables false
set_option linter.unusedSimpArgs false
attribute [local irreducible] crashB crashK pushB readB inB errB cutN seenW okW setB addB

set_option maxHeartbeats 2000000 in
theorem c_rcrash (br : Nat) (vs : Value) (ss : List (List (BitVec 8))) (Hs : List (Nat × Obj)) (vl : Value) (ll : List (List (BitVec 8))) (Hl : List (Nat × Obj)) (va : Value) (Ha : List (Nat × Obj)) (vw : Value) (Hw : List (Nat × Obj)) (ps : List WriteT) (vq : Value) (qs : List (BitVec 8)) (w0 : World) (R : Rest) (hm0 : Mem w0 R ([(br, .cells #[vs, vl, va, vw] 63 (0, 0))] ++ (Hs ++ (Hl ++ (Ha ++ (Hw ++ ([]))))))) (gs : GrowK (encA u8) 64 43 vs ss Hs) (gl : GrowK (encA u8) 64 43 vl ll Hl) (ga : Grow i64 3 va (ps.map WriteT.at_) Ha) (gw : GrowK (encA u8) 64 43 vw (ps.map WriteT.b) Hw) (hq : Rd R.blk u8 vq qs) (hat : ∀ i, i < ps.length → 0 ≤ (ps.getD i write0).at_ ∧ (ps.getD i write0).at_ < (ll.length : Int)) (hll : ll.length ≤ 65536) (hpl : ps.length ≤ 1048576) (hql : qs.length ≤ 1048576) : CallsR Try.prog 34 #[(ptr br 0), vq] w0 (fun r w1 => ∃ vs2 Hs2 vl2 Hl2 va2 Ha2 vw2 Hw2, r = .tuple #[] ∧ GrowK (encA u8) 64 43 vs2 (crashB ll ps qs) Hs2 ∧ GrowK (encA u8) 64 43 vl2 (crashB ll ps qs) Hl2 ∧ Grow i64 3 va2 [] Ha2 ∧ GrowK (encA u8) 64 43 vw2 [] Hw2 ∧ Mem w1 R ([(br, .cells #[vs2, vl2, va2, vw2] 63 (0, 0))] ++ (Hs2 ++ (Hl2 ++ (Ha2 ++ (Hw2 ++ ([]))))))) := by
 refine callsR_of_cw (args := [(ptr br 0), vq]) Try.func34 rfl Try.ntmps34 Try.results34 rfl <| sR <| rw_c rfl (or_buildSlice_p (c := #[]) hm0 uT61 ti43 rfl pm_nil (by kernel_rfl)) ?_
 rintro _ w1 ⟨b10, rfl, _ew1, hm1⟩
 have hm1 : Mem w1 R ([(b10, .cells #[] 43 (0, 0)), (br, .cells #[vs, vl, va, vw] 63 (0, 0))] ++ (Hs ++ (Hl ++ (Ha ++ (Hw ++ ([])))))) := hm1
 refine rw_q rfl (ev_move (v := (ptr br 0)) rfl) <| rw_q rfl (ev_nilCheck rfl) <| rw_q rfl (ev_fa (r := 1) uT63 rfl (by first | rfl | omega) ti61 rfl rfl) <| rw_q (v := vl) rfl (ev_load1 uT61 rfl rfl hm1.h1 rfl) <| rw_c rfl (or_appendK (enc := (encA u8)) (k := 64) (Hs := [(b10, .cells #[] 43 (0, 0))]) (H := [(br, .cells #[vs, vl, va, vw] 63 (0, 0))] ++ (Hs ++ (Hl ++ (Ha ++ (Hw ++ ([])))))) hm1 (GrowK.of (encA u8) 64 43 b10 [] rfl (by simp)) rfl rfl (gl.rd (Mem.pick2 [_, _] Hs Hl _ hm1)) uT61 uT61 ti43 rfl rfl (fun _ _ => encA_one u8_one _) sL sL) ?_
 rintro sv2 w2 ⟨Hs2, hm2, g2⟩
 replace g2 : GrowK (encA u8) 64 43 sv2 ll Hs2 := g2
 refine rA rfl (v := sv2) rfl ?_
 refine rN (cw_seq (sR ?_))
 refine rw_q rfl (ev_assign (v := (i64 0)) rfl) ?_
 refine rN (cw_block ?_)
 refine cw_loop (fun g wv => ∃ (k : Nat) (vn : Value) (Hn : List (Nat × Obj)), (k ≤ ps.length) ∧ (GrowK (encA u8) 64 43 vn (crashK ll ps (picksB qs) k) Hn) ∧ g 0 = (ptr br 0) ∧ g 1 = vq ∧ g 4 = vn ∧ g 5 = (i64 (k : Int)) ∧ Mem wv R ([(br, .cells #[vs, vl, va, vw] 63 (0, 0))] ++ (Hn ++ (Hs ++ (Hl ++ (Ha ++ (Hw ++ ([])))))))) (fun g wv => ((ps.length : Int) - RowKit.intOf (g 5)).toNat) ?_ ?_
 have hm3 := (Mem.pick5 Hs2 [_] Hs Hl Ha Hw _ hm2)
 have hm4 := (Mem.pick5 Hw Hs2 [_] Hs Hl Ha _ hm3)
 have hm5 := (Mem.pick5 Ha Hw Hs2 [_] Hs Hl _ hm4)
 have hm6 := (Mem.pick5 Hl Ha Hw Hs2 [_] Hs _ hm5)
 have hm7 := (Mem.pick4 Hs Hl Ha Hw Hs2 _ hm6)
 have hm8 := (Mem.pick5 Hs2 Hs Hl Ha Hw [_] _ hm7)
 · exact ⟨0, sv2, Hs2, (Nat.zero_le _), (GrowK.cast g2 (by simp [crashK])), rfl, rfl, rfl, rfl, (by
   have hT := hm8
   simp only [List.append_assoc, List.cons_append, List.nil_append, List.append_nil] at hT ⊢
   exact hT)⟩
 · rintro fr9 w10 ⟨k, vn, Hn, hk, gn, s0, s1, s4, s5, hm10⟩
   have z4 := s4
   have z5 := s5
   have hck := crashK_len (ls := ll) (ps := ps) (q := picksB qs) k
   have hml : (ps.map WriteT.at_).length = ps.length := by simp
   have hmw : (ps.map WriteT.b).length = ps.length := by simp
   refine cw_seq (sR ?_)
   refine rM rfl s5 <| rM rfl s0 <| rw_q rfl (ev_nilCheck rfl) <| rw_q rfl (ev_fa (r := 2) uT63 rfl (by first | rfl | omega) ti35 rfl rfl) <| rw_q (v := va) rfl (ev_load1 uT35 rfl rfl hm10.h0 rfl) <| rw_q (v := (i64 ((ps.map WriteT.at_).length : Int))) rfl (ev_len_rd (ga.rd (Mem.pick4 [_] Hn Hs Hl Ha _ hm10)) uT35 rfl) ?_
   refine rw_q rfl (ev_i64_lss rfl rfl) <| rN ?_
   refine cw_cond rfl (fun hc11 => ?_) (fun hc11 => ?_)
   · -- true
     have hc11p := of_decide_eq_true hc11
     have hkp : k < ps.length := by omega
     have hak := hat k hkp
     have hbk : (ps.getD k write0).b.length = 64 := by rw [← map_b hkp]; exact growA_b gw (by simpa using hkp)
     refine cw_skip (kThen_normal (cw_seq (cw_block (sR ?_))))
     refine rw_q rfl (ev_assign (v := (i64 0)) rfl) ?_
     refine rN (cw_seq (sR ?_))
     refine rM rfl s1 <| rw_q (v := (i64 (qs.length : Int))) rfl (ev_len_rd (Rd.ofRest hq hm10) uT24 rfl) <| rw_q rfl (ev_i64_gtr (b := 0) rfl rfl) <| rN ?_
     refine cw_meet (J := fun g wv => ∃ (pk : BitVec 8), (pk = (picksB qs).getD (k % (picksB qs).length) 0) ∧ g 0 = (ptr br 0) ∧ g 1 = vq ∧ g 4 = vn ∧ g 5 = (i64 (k : Int)) ∧ g 6 = (i64 (pk.toNat : Int)) ∧ g 22 = (bl (decide ((k : Int) < ((ps.map WriteT.at_).length : Int)))) ∧ g 27 = (bl (decide (0 < (qs.length : Int)))) ∧ Mem wv R ([(br, .cells #[vs, vl, va, vw] 63 (0, 0))] ++ (Hn ++ (Hs ++ (Hl ++ (Ha ++ (Hw ++ ([])))))))) ?_ ?_
     · skip
       refine cw_cond rfl (fun hc12 => ?_) (fun hc12 => ?_)
       · -- true
         have hc12p := of_decide_eq_true hc12
         refine cw_region <| rM rfl s1 <| rM rfl s5 <| rM rfl s1 <| rw_q (v := (i64 (qs.length : Int))) rfl (ev_len_rd (Rd.ofRest hq hm10) uT24 rfl) ?_
         obtain ⟨n13, hn13, hn13l⟩ : ∃ q : Nat, (k : Int) % (qs.length : Int) = (q : Int) ∧ q < qs.length := ⟨((k : Int) % (qs.length : Int)).toNat, (Int.toNat_of_nonneg (Int.emod_nonneg _ oM)).symm, by have h1 := Int.emod_nonneg (k : Int) (b := (qs.length : Int)) oM; have h2 := Int.emod_lt_of_pos (k : Int) (b := (qs.length : Int)) oM; omega⟩
         refine rw_q rfl (EvQ.cast (congrArg i64 hn13) (ev_i64_rem rfl rfl oM oM oM)) <| rw_q rfl (ev_indexAddr_rdv (Rd.ofRest hq hm10) uT24 ti5 rfl rfl oM sL) <| rw_q (v := (u8 (qs.getD n13 0))) rfl (ev_load_rdD (l := qs) (i := (n13 : Int)) (dflt := 0) (Rd.ofRest hq hm10) uT5 rfl oM sL rfl) <| rw_q rfl (ev_conv_u8_i64 ⟨_, uT5⟩ uT3 rfl) <| rw_q rfl (ev_assign (v := (i64 ((qs.getD n13 0).toNat : Int))) rfl) <| rN ?_
         exact ⟨(qs.getD n13 0), (pick_n (by have h := of_decide_eq_true hc12; omega) hn13), s0, s1, s4, s5, rfl, rfl, rfl, hm10⟩
       · -- false
         have hc12p := of_decide_eq_false hc12
         refine cw_skip (kThen_normal ?_)
         exact ⟨0#8, (pick_0 (by have h := of_decide_eq_false hc12; omega)), s0, s1, s4, s5, rfl, rfl, rfl, hm10⟩
     · rintro fr14 w15 ⟨pk, hpk, s0, s1, s4, s5, s6, s22, s27, hm15⟩
       refine sR <| rw_q rfl (ev_assign (v := (i64 0)) rfl) ?_
       refine rN (cw_seq (sR ?_))
       refine rM rfl s6 <| rw_q rfl (ev_i64_rem (b := 3) rfl rfl oM oM oM) <| rw_q rfl (ev_i64_eql (b := 1) rfl rfl) <| rN ?_
       refine cw_cond rfl (fun hc16 => ?_) (fun hc16 => ?_)
       · -- true
         have hc16p := eq_of_beq hc16
         refine cw_region <| rw_q rfl (ev_assign (v := (i64 64)) rfl) ?_
         refine rN (cw_seq (sR ?_))
         refine rM rfl s6 <| rw_q rfl (ev_i64_rem (b := 3) rfl rfl oM oM oM) <| rw_q rfl (ev_i64_eql (b := 2) rfl rfl) <| rN ?_
         refine cw_meet (J := fun g wv => ∃ (nn : Nat), (nn = cutN pk) ∧ g 0 = (ptr br 0) ∧ g 1 = vq ∧ g 4 = vn ∧ g 5 = (i64 (k : Int)) ∧ g 6 = (i64 (pk.toNat : Int)) ∧ g 7 = (i64 (nn : Int)) ∧ g 22 = (bl (decide ((k : Int) < ((ps.map WriteT.at_).length : Int)))) ∧ g 27 = (bl (decide (0 < (qs.length : Int)))) ∧ g 38 = (bl (((pk.toNat : Int) % 3) == 1)) ∧ g 41 = (bl (((pk.toNat : Int) % 3) == 2)) ∧ Mem wv R ([(br, .cells #[vs, vl, va, vw] 63 (0, 0))] ++ (Hn ++ (Hs ++ (Hl ++ (Ha ++ (Hw ++ ([])))))))) ?_ ?_
         · skip
           have hd17 : (((pk.toNat : Int) % 3) == 2) = false := one_two hc16
           refine cw_cond_f rfl hd17 ?_
           refine cw_skip (kThen_normal ?_)
           exact ⟨64, (cutz_1 hc16), s0, s1, s4, s5, s6, rfl, s22, s27, rfl, rfl, hm15⟩
         · rintro fr18 w19 ⟨nn, hnn, s0, s1, s4, s5, s6, s7, s22, s27, s38, s41, hm19⟩
           have hn64 := cutN_le pk; rw [← hnn] at hn64
           refine cw_seq ?_
           have hcu : ((crashK ll ps (picksB qs) k).getD ((ps.getD k write0).at_).toNat []).length = 64 := growA_b gn oM
           refine cw_region <| rM rfl s4 <| rM rfl s0 <| rw_q rfl (ev_nilCheck rfl) <| rw_q rfl (ev_fa (r := 2) uT63 rfl (by first | rfl | omega) ti35 rfl rfl) <| rw_q (v := va) rfl (ev_load1 uT35 rfl rfl hm19.h0 rfl) ?_
           refine rM rfl s5 <| rw_q rfl (ev_indexAddr_rdv (ga.rd (Mem.pick4 [_] Hn Hs Hl Ha _ hm19)) uT35 ti3 rfl rfl oM sL) <| rw_q (v := (i64 ((ps.getD k write0).at_))) rfl (EvQ.cast (congrArg i64 (map_at oM)) (ev_load_rdD (l := (ps.map WriteT.at_)) (i := (k : Int)) (dflt := 0) (ga.rd (Mem.pick4 [_] Hn Hs Hl Ha _ hm19)) uT3 rfl oM sL rfl)) <| rw_q rfl (ev_indexAddr_rk (i := (ps.getD k write0).at_) (gn.rd (Mem.pick [_] Hn _ hm19)) uT61 ti43 rfl rfl oM sL) <| rw_q (v := (agg u8 ((crashK ll ps (picksB qs) k).getD (((ps.getD k write0).at_ : Int).toNat) []))) rfl (ev_load_rka (i := (ps.getD k write0).at_) (gn.rd (Mem.pick [_] Hn _ hm19)) sL uT43 ti43 rfl rfl) <| rw_c rfl (or_alloc_agg hm19 ti43) ?_
           rintro _ w20 ⟨b8, rfl, _ew20, hm20⟩
           refine rw_n (or_store_agg (f := u8) (l := (crashK ll ps (picksB qs) k).getD (((ps.getD k write0).at_ : Int).toNat) []) u8_one ti43 rfl rfl sL hm20.h0 (by rw [size_cl]; first | omega | (simp only [List.length_set, List.length_append, List.length_replicate, List.length_map, List.length_cons, List.length_nil]; omega) | (simp; done) | (simp; omega) | decide) rfl) ?_
           rintro _ w21 uq21
           have hm21 := hm20.upd0 uq21
           refine rN (cw_seq (sR ?_))
           refine rw_q rfl (ev_assign (v := (i64 0)) rfl) ?_
           refine rN (cw_block ?_)
           refine cw_loop (fun g wv => ∃ (j : Nat), (j ≤ nn) ∧ g 0 = (ptr br 0) ∧ g 1 = vq ∧ g 4 = vn ∧ g 5 = (i64 (k : Int)) ∧ g 6 = (i64 (pk.toNat : Int)) ∧ g 7 = (i64 (nn : Int)) ∧ g 8 = (ptr b8 0) ∧ g 9 = (i64 (j : Int)) ∧ g 22 = (bl (decide ((k : Int) < ((ps.map WriteT.at_).length : Int)))) ∧ g 27 = (bl (decide (0 < (qs.length : Int)))) ∧ g 38 = (bl (((pk.toNat : Int) % 3) == 1)) ∧ g 41 = (bl (((pk.toNat : Int) % 3) == 2)) ∧ Mem wv R ([(b8, .cells (cl u8 ((ps.getD k write0).b.take j ++ ((crashK ll ps (picksB qs) k).getD ((ps.getD k write0).at_).toNat []).drop j)) 43 (0, 0)), (br, .cells #[vs, vl, va, vw] 63 (0, 0))] ++ (Hn ++ (Hs ++ (Hl ++ (Ha ++ (Hw ++ ([])))))))) (fun g wv => ((nn : Int) - RowKit.intOf (g 9)).toNat) ?_ ?_
           · exact ⟨0, (Nat.zero_le _), s0, s1, s4, s5, s6, s7, rfl, rfl, s22, s27, s38, s41, (by have h := hm21; rw [fill_0 (bs := (ps.getD k write0).b) (cur := ((crashK ll ps (picksB qs) k).getD ((ps.getD k write0).at_).toNat []))] at h; exact h)⟩
           · rintro fr22 w23 ⟨j, hj, s0, s1, s4, s5, s6, s7, s8, s9, s22, s27, s38, s41, hm23⟩
             have z9 := s9
             have hfl : ((ps.getD k write0).b.take j ++ ((crashK ll ps (picksB qs) k).getD ((ps.getD k write0).at_).toNat []).drop j).length = 64 := by simp only [List.length_append, List.length_take, List.length_drop]; omega
             refine cw_seq (sR ?_)
             refine rM rfl s9 <| rM rfl s7 <| rw_q rfl (ev_i64_lss rfl rfl) <| rN ?_
             refine cw_cond rfl (fun hc24 => ?_) (fun hc24 => ?_)
             · -- true
               have hc24p := of_decide_eq_true hc24
               refine cw_skip (kThen_normal (cw_seq (cw_block (cw_region ?_))))
               refine rM rfl s9 <| rM rfl s0 <| rw_q rfl (ev_nilCheck rfl) <| rw_q rfl (ev_fa (r := 3) uT63 rfl (by first | rfl | omega) ti61 rfl rfl) <| rw_q (v := vw) rfl (ev_load1 uT61 rfl rfl hm23.h1 rfl) <| rM rfl s5 ?_
               refine rM rfl s9 <| rw_q rfl (ev_indexAddr_rk (i := (k : Int)) (gw.rd (Mem.pick5 [_, _] Hn Hs Hl Ha Hw _ hm23)) uT61 ti43 rfl rfl oM sL) <| rw_q rfl (ev_ia_rk (i := (k : Int)) (j := ((j : Int) : Int)) (gw.rd (Mem.pick5 [_, _] Hn Hs Hl Ha Hw _ hm23)) sL uT43 ti5 rfl rfl oM sL) <| rw_q (v := (u8 ((ps.getD k write0).b.getD j 0))) rfl (EvQ.cast (congrArg (fun l : List (BitVec 8) => u8 (l.getD j 0)) (map_b oM)) (ev_load_rkE (i := (k : Int)) (j := ((j : Int) : Int).toNat) 0 (gw.rd (Mem.pick5 [_, _] Hn Hs Hl Ha Hw _ hm23)) sL sL uT5 rfl rfl)) <| rw_q rfl (ev_ia_arr (r := j) oM uT43 ti5 s8 rfl oM sL) <| rw_n (or_store_cl (f := u8) (a := (ps.getD k write0).b.getD j 0) u8_one ti5 rfl rfl hm23.h0 sL (.inl (Nat.zero_le _))) ?_
               rintro _ w25 uq25
               have hm25 := hm23.upd0 uq25
               refine rw_nil (kBlk_normal (cw_region ?_))
               refine rM rfl s9 <| rw_q rfl (ev_i64_add (b := 1) rfl rfl oM oM) <| rw_q rfl (ev_assign (v := (i64 ((j : Int) + 1))) rfl) <| rN ?_
               exact ⟨⟨(j + 1), oM, s0, s1, s4, s5, s6, s7, s8, rfl, s22, s27, s38, s41, (by have h := hm25; rw [fill_step oM oM] at h; exact h)⟩, meas (rfl) z9 oM oM⟩
             · -- false
               have hc24p := of_decide_eq_false hc24
               have hjn : j = nn := by omega
               refine cw_exit ?_
               refine kThen_exit (kThen_exit (kBlk_hit ?_))
               refine cw_draw [(0, false), (1, false), (2, false), (3, false), (4, false), (5, false), (6, false), (7, false), (8, false)] 9 (by kernel_rfl) <| dM rfl rfl s4 <| dM rfl rfl s0 <| dw_q rfl rfl (fun _ _hx => ev_nilCheck rfl) <| dw_q rfl rfl (fun _ _hx => ev_fa (r := 2) uT63 rfl (by first | rfl | omega) ti35 rfl rfl) <| dw_q (v := va) rfl rfl (fun _ _hx => ev_load1 uT35 rfl rfl (hm23.ext _hx).h1 rfl) ?_
               refine dM rfl rfl s5 <| dw_q rfl rfl (fun _ _hx => ev_indexAddr_rdv (ga.rd (Mem.pick4 [_, _] Hn Hs Hl Ha _ (hm23.ext _hx))) uT35 ti3 rfl rfl oM sL) <| dw_q (v := (i64 ((ps.getD k write0).at_))) rfl rfl (fun _ _hx => EvQ.cast (congrArg i64 (map_at oM)) (ev_load_rdD (l := (ps.map WriteT.at_)) (i := (k : Int)) (dflt := 0) (ga.rd (Mem.pick4 [_, _] Hn Hs Hl Ha _ (hm23.ext _hx))) uT3 rfl oM sL rfl)) <| dw_q (v := (agg u8 ((ps.getD k write0).b.take j ++ ((crashK ll ps (picksB qs) k).getD ((ps.getD k write0).at_).toNat []).drop j))) rfl rfl (fun _ _hx => ev_loadA uT43 rfl ti43 s8 (hm23.ext _hx).h0 (by rw [size_cl]; first | omega | (simp only [List.length_set, List.length_append, List.length_replicate, List.length_map, List.length_cons, List.length_nil]; omega) | (simp; done) | (simp; omega) | decide)) ?_
               refine dw_nil (fun w26 _ew26 => ?_)
               have hm26 := hm23.ext _ew26
               refine rw_q rfl (ev_indexAddr_rk (i := (ps.getD k write0).at_) (gn.rd (Mem.pick [_, _] Hn _ hm26)) uT61 ti43 rfl rfl oM sL) <| rw_n (or_storeKA (Hs := Hn) (H := [(b8, .cells (cl u8 ((ps.getD k write0).b.take j ++ ((crashK ll ps (picksB qs) k).getD ((ps.getD k write0).at_).toNat []).drop j)) 43 (0, 0)), (br, .cells #[vs, vl, va, vw] 63 (0, 0))] ++ (Hs ++ (Hl ++ (Ha ++ (Hw ++ ([])))))) (i := (ps.getD k write0).at_) (bs := ((ps.getD k write0).b.take j ++ ((crashK ll ps (picksB qs) k).getD ((ps.getD k write0).at_).toNat []).drop j)) (Mem.pick [_, _] Hn _ hm26) gn ti43 sL rfl rfl sL u8_one) ?_
               rintro _ w27 ⟨Hs27, hm27, g27⟩
               replace g27 : GrowK (encA u8) 64 43 vn ((crashK ll ps (picksB qs) k).set (((ps.getD k write0).at_ : Int).toNat) ((ps.getD k write0).b.take j ++ ((crashK ll ps (picksB qs) k).getD ((ps.getD k write0).at_).toNat []).drop j)) Hs27 := g27
               refine rw_nil (kBlk_normal (cw_region ?_))
               refine rM rfl s5 <| rw_q rfl (ev_i64_add (b := 1) rfl rfl oM oM) <| rw_q rfl (ev_assign (v := (i64 ((k : Int) + 1))) rfl) <| rN ?_
               have hm28 := Mem.drop ([(b8, .cells (cl u8 ((ps.getD k write0).b.take j ++ ((crashK ll ps (picksB qs) k).getD ((ps.getD k write0).at_).toNat []).drop j)) 43 (0, 0))]) _ (Mem.pick Hs27 [_] _ hm27)
               have hm29 := (Mem.pick5 Hs27 [_] Hs Hl Ha Hw _ hm28)
               have hm30 := (Mem.pick5 Hw Hs27 [_] Hs Hl Ha _ hm29)
               have hm31 := (Mem.pick5 Ha Hw Hs27 [_] Hs Hl _ hm30)
               have hm32 := (Mem.pick5 Hl Ha Hw Hs27 [_] Hs _ hm31)
               have hm33 := (Mem.pick4 Hs Hl Ha Hw Hs27 _ hm32)
               have hm34 := (Mem.pick5 Hs27 Hs Hl Ha Hw [_] _ hm33)
               exact ⟨⟨(k + 1), vn, Hs27, oM, (GrowK.cast g27 (crash_put (by rw [hjn, hnn, hpk]))), s0, s1, s4, rfl, (by
                 have hT := hm34
                 simp only [List.append_assoc, List.cons_append, List.nil_append, List.append_nil] at hT ⊢
                 exact hT)⟩, meas (rfl) z5 oM oM⟩
       · -- false
         have hc16p := ne_of_beq_false hc16
         refine cw_skip (kThen_normal (cw_seq (sR ?_)))
         refine rM rfl s6 <| rw_q rfl (ev_i64_rem (b := 3) rfl rfl oM oM oM) <| rw_q rfl (ev_i64_eql (b := 2) rfl rfl) <| rN ?_
         refine cw_meet (J := fun g wv => ∃ (nn : Nat), (nn = cutN pk) ∧ g 0 = (ptr br 0) ∧ g 1 = vq ∧ g 4 = vn ∧ g 5 = (i64 (k : Int)) ∧ g 6 = (i64 (pk.toNat : Int)) ∧ g 7 = (i64 (nn : Int)) ∧ g 22 = (bl (decide ((k : Int) < ((ps.map WriteT.at_).length : Int)))) ∧ g 27 = (bl (decide (0 < (qs.length : Int)))) ∧ g 38 = (bl (((pk.toNat : Int) % 3) == 1)) ∧ g 41 = (bl (((pk.toNat : Int) % 3) == 2)) ∧ Mem wv R ([(br, .cells #[vs, vl, va, vw] 63 (0, 0))] ++ (Hn ++ (Hs ++ (Hl ++ (Ha ++ (Hw ++ ([])))))))) ?_ ?_
         · skip
           refine cw_cond rfl (fun hc35 => ?_) (fun hc35 => ?_)
           · -- true
             have hc35p := eq_of_beq hc35
             refine cw_region <| rM rfl s6 <| rw_q rfl (ev_i64_quo (b := 3) rfl rfl oM oM oM) ?_
             obtain ⟨n36, hn36, hn36l⟩ : ∃ q : Nat, ((pk.toNat : Int) / 3) % 64 = (q : Int) ∧ q ≤ 63 := ⟨(((pk.toNat : Int) / 3) % 64).toNat, (Int.toNat_of_nonneg (Int.emod_nonneg _ oM)).symm, by omega⟩
             refine rw_q rfl (EvQ.cast (congrArg i64 hn36) (ev_i64_rem (b := 64) rfl rfl oM oM oM)) <| rw_q rfl (ev_assign (v := (i64 (n36 : Int))) rfl) <| rN ?_
             exact ⟨n36, (cutz_2 hc16 hc35 hn36), s0, s1, s4, s5, s6, rfl, s22, s27, rfl, rfl, hm15⟩
           · -- false
             have hc35p := ne_of_beq_false hc35
             refine cw_skip (kThen_normal ?_)
             exact ⟨0, (cutz_0 hc16 hc35), s0, s1, s4, s5, s6, rfl, s22, s27, rfl, rfl, hm15⟩
         · rintro fr37 w38 ⟨nn, hnn, s0, s1, s4, s5, s6, s7, s22, s27, s38, s41, hm38⟩
           have hn64 := cutN_le pk; rw [← hnn] at hn64
           refine cw_seq ?_
           have hcu : ((crashK ll ps (picksB qs) k).getD ((ps.getD k write0).at_).toNat []).length = 64 := growA_b gn oM
           refine cw_region <| rM rfl s4 <| rM rfl s0 <| rw_q rfl (ev_nilCheck rfl) <| rw_q rfl (ev_fa (r := 2) uT63 rfl (by first | rfl | omega) ti35 rfl rfl) <| rw_q (v := va) rfl (ev_load1 uT35 rfl rfl hm38.h0 rfl) ?_
           refine rM rfl s5 <| rw_q rfl (ev_indexAddr_rdv (ga.rd (Mem.pick4 [_] Hn Hs Hl Ha _ hm38)) uT35 ti3 rfl rfl oM sL) <| rw_q (v := (i64 ((ps.getD k write0).at_))) rfl (EvQ.cast (congrArg i64 (map_at oM)) (ev_load_rdD (l := (ps.map WriteT.at_)) (i := (k : Int)) (dflt := 0) (ga.rd (Mem.pick4 [_] Hn Hs Hl Ha _ hm38)) uT3 rfl oM sL rfl)) <| rw_q rfl (ev_indexAddr_rk (i := (ps.getD k write0).at_) (gn.rd (Mem.pick [_] Hn _ hm38)) uT61 ti43 rfl rfl oM sL) <| rw_q (v := (agg u8 ((crashK ll ps (picksB qs) k).getD (((ps.getD k write0).at_ : Int).toNat) []))) rfl (ev_load_rka (i := (ps.getD k write0).at_) (gn.rd (Mem.pick [_] Hn _ hm38)) sL uT43 ti43 rfl rfl) <| rw_c rfl (or_alloc_agg hm38 ti43) ?_
           rintro _ w39 ⟨b8_1, rfl, _ew39, hm39⟩
           refine rw_n (or_store_agg (f := u8) (l := (crashK ll ps (picksB qs) k).getD (((ps.getD k write0).at_ : Int).toNat) []) u8_one ti43 rfl rfl sL hm39.h0 (by rw [size_cl]; first | omega | (simp only [List.length_set, List.length_append, List.length_replicate, List.length_map, List.length_cons, List.length_nil]; omega) | (simp; done) | (simp; omega) | decide) rfl) ?_
           rintro _ w40 uq40
           have hm40 := hm39.upd0 uq40
           refine rN (cw_seq (sR ?_))
           refine rw_q rfl (ev_assign (v := (i64 0)) rfl) ?_
           refine rN (cw_block ?_)
           refine cw_loop (fun g wv => ∃ (j : Nat), (j ≤ nn) ∧ g 0 = (ptr br 0) ∧ g 1 = vq ∧ g 4 = vn ∧ g 5 = (i64 (k : Int)) ∧ g 6 = (i64 (pk.toNat : Int)) ∧ g 7 = (i64 (nn : Int)) ∧ g 8 = (ptr b8_1 0) ∧ g 9 = (i64 (j : Int)) ∧ g 22 = (bl (decide ((k : Int) < ((ps.map WriteT.at_).length : Int)))) ∧ g 27 = (bl (decide (0 < (qs.length : Int)))) ∧ g 38 = (bl (((pk.toNat : Int) % 3) == 1)) ∧ g 41 = (bl (((pk.toNat : Int) % 3) == 2)) ∧ Mem wv R ([(b8_1, .cells (cl u8 ((ps.getD k write0).b.take j ++ ((crashK ll ps (picksB qs) k).getD ((ps.getD k write0).at_).toNat []).drop j)) 43 (0, 0)), (br, .cells #[vs, vl, va, vw] 63 (0, 0))] ++ (Hn ++ (Hs ++ (Hl ++ (Ha ++ (Hw ++ ([])))))))) (fun g wv => ((nn : Int) - RowKit.intOf (g 9)).toNat) ?_ ?_
           · exact ⟨0, (Nat.zero_le _), s0, s1, s4, s5, s6, s7, rfl, rfl, s22, s27, s38, s41, (by have h := hm40; rw [fill_0 (bs := (ps.getD k write0).b) (cur := ((crashK ll ps (picksB qs) k).getD ((ps.getD k write0).at_).toNat []))] at h; exact h)⟩
           · rintro fr41 w42 ⟨j, hj, s0, s1, s4, s5, s6, s7, s8, s9, s22, s27, s38, s41, hm42⟩
             have z9 := s9
             have hfl : ((ps.getD k write0).b.take j ++ ((crashK ll ps (picksB qs) k).getD ((ps.getD k write0).at_).toNat []).drop j).length = 64 := by simp only [List.length_append, List.length_take, List.length_drop]; omega
             refine cw_seq (sR ?_)
             refine rM rfl s9 <| rM rfl s7 <| rw_q rfl (ev_i64_lss rfl rfl) <| rN ?_
             refine cw_cond rfl (fun hc43 => ?_) (fun hc43 => ?_)
             · -- true
               have hc43p := of_decide_eq_true hc43
               refine cw_skip (kThen_normal (cw_seq (cw_block (cw_region ?_))))
               refine rM rfl s9 <| rM rfl s0 <| rw_q rfl (ev_nilCheck rfl) <| rw_q rfl (ev_fa (r := 3) uT63 rfl (by first | rfl | omega) ti61 rfl rfl) <| rw_q (v := vw) rfl (ev_load1 uT61 rfl rfl hm42.h1 rfl) <| rM rfl s5 ?_
               refine rM rfl s9 <| rw_q rfl (ev_indexAddr_rk (i := (k : Int)) (gw.rd (Mem.pick5 [_, _] Hn Hs Hl Ha Hw _ hm42)) uT61 ti43 rfl rfl oM sL) <| rw_q rfl (ev_ia_rk (i := (k : Int)) (j := ((j : Int) : Int)) (gw.rd (Mem.pick5 [_, _] Hn Hs Hl Ha Hw _ hm42)) sL uT43 ti5 rfl rfl oM sL) <| rw_q (v := (u8 ((ps.getD k write0).b.getD j 0))) rfl (EvQ.cast (congrArg (fun l : List (BitVec 8) => u8 (l.getD j 0)) (map_b oM)) (ev_load_rkE (i := (k : Int)) (j := ((j : Int) : Int).toNat) 0 (gw.rd (Mem.pick5 [_, _] Hn Hs Hl Ha Hw _ hm42)) sL sL uT5 rfl rfl)) <| rw_q rfl (ev_ia_arr (r := j) oM uT43 ti5 s8 rfl oM sL) <| rw_n (or_store_cl (f := u8) (a := (ps.getD k write0).b.getD j 0) u8_one ti5 rfl rfl hm42.h0 sL (.inl (Nat.zero_le _))) ?_
               rintro _ w44 uq44
               have hm44 := hm42.upd0 uq44
               refine rw_nil (kBlk_normal (cw_region ?_))
               refine rM rfl s9 <| rw_q rfl (ev_i64_add (b := 1) rfl rfl oM oM) <| rw_q rfl (ev_assign (v := (i64 ((j : Int) + 1))) rfl) <| rN ?_
               exact ⟨⟨(j + 1), oM, s0, s1, s4, s5, s6, s7, s8, rfl, s22, s27, s38, s41, (by have h := hm44; rw [fill_step oM oM] at h; exact h)⟩, meas (rfl) z9 oM oM⟩
             · -- false
               have hc43p := of_decide_eq_false hc43
               have hjn : j = nn := by omega
               refine cw_exit ?_
               refine kThen_exit (kThen_exit (kBlk_hit ?_))
               refine cw_draw [(0, false), (1, false), (2, false), (3, false), (4, false), (5, false), (6, false), (7, false), (8, false)] 9 (by kernel_rfl) <| dM rfl rfl s4 <| dM rfl rfl s0 <| dw_q rfl rfl (fun _ _hx => ev_nilCheck rfl) <| dw_q rfl rfl (fun _ _hx => ev_fa (r := 2) uT63 rfl (by first | rfl | omega) ti35 rfl rfl) <| dw_q (v := va) rfl rfl (fun _ _hx => ev_load1 uT35 rfl rfl (hm42.ext _hx).h1 rfl) ?_
               refine dM rfl rfl s5 <| dw_q rfl rfl (fun _ _hx => ev_indexAddr_rdv (ga.rd (Mem.pick4 [_, _] Hn Hs Hl Ha _ (hm42.ext _hx))) uT35 ti3 rfl rfl oM sL) <| dw_q (v := (i64 ((ps.getD k write0).at_))) rfl rfl (fun _ _hx => EvQ.cast (congrArg i64 (map_at oM)) (ev_load_rdD (l := (ps.map WriteT.at_)) (i := (k : Int)) (dflt := 0) (ga.rd (Mem.pick4 [_, _] Hn Hs Hl Ha _ (hm42.ext _hx))) uT3 rfl oM sL rfl)) <| dw_q (v := (agg u8 ((ps.getD k write0).b.take j ++ ((crashK ll ps (picksB qs) k).getD ((ps.getD k write0).at_).toNat []).drop j))) rfl rfl (fun _ _hx => ev_loadA uT43 rfl ti43 s8 (hm42.ext _hx).h0 (by rw [size_cl]; first | omega | (simp only [List.length_set, List.length_append, List.length_replicate, List.length_map, List.length_cons, List.length_nil]; omega) | (simp; done) | (simp; omega) | decide)) ?_
               refine dw_nil (fun w45 _ew45 => ?_)
               have hm45 := hm42.ext _ew45
               refine rw_q rfl (ev_indexAddr_rk (i := (ps.getD k write0).at_) (gn.rd (Mem.pick [_, _] Hn _ hm45)) uT61 ti43 rfl rfl oM sL) <| rw_n (or_storeKA (Hs := Hn) (H := [(b8_1, .cells (cl u8 ((ps.getD k write0).b.take j ++ ((crashK ll ps (picksB qs) k).getD ((ps.getD k write0).at_).toNat []).drop j)) 43 (0, 0)), (br, .cells #[vs, vl, va, vw] 63 (0, 0))] ++ (Hs ++ (Hl ++ (Ha ++ (Hw ++ ([])))))) (i := (ps.getD k write0).at_) (bs := ((ps.getD k write0).b.take j ++ ((crashK ll ps (picksB qs) k).getD ((ps.getD k write0).at_).toNat []).drop j)) (Mem.pick [_, _] Hn _ hm45) gn ti43 sL rfl rfl sL u8_one) ?_
               rintro _ w46 ⟨Hs46, hm46, g46⟩
               replace g46 : GrowK (encA u8) 64 43 vn ((crashK ll ps (picksB qs) k).set (((ps.getD k write0).at_ : Int).toNat) ((ps.getD k write0).b.take j ++ ((crashK ll ps (picksB qs) k).getD ((ps.getD k write0).at_).toNat []).drop j)) Hs46 := g46
               refine rw_nil (kBlk_normal (cw_region ?_))
               refine rM rfl s5 <| rw_q rfl (ev_i64_add (b := 1) rfl rfl oM oM) <| rw_q rfl (ev_assign (v := (i64 ((k : Int) + 1))) rfl) <| rN ?_
               have hm47 := Mem.drop ([(b8_1, .cells (cl u8 ((ps.getD k write0).b.take j ++ ((crashK ll ps (picksB qs) k).getD ((ps.getD k write0).at_).toNat []).drop j)) 43 (0, 0))]) _ (Mem.pick Hs46 [_] _ hm46)
               have hm48 := (Mem.pick5 Hs46 [_] Hs Hl Ha Hw _ hm47)
               have hm49 := (Mem.pick5 Hw Hs46 [_] Hs Hl Ha _ hm48)
               have hm50 := (Mem.pick5 Ha Hw Hs46 [_] Hs Hl _ hm49)
               have hm51 := (Mem.pick5 Hl Ha Hw Hs46 [_] Hs _ hm50)
               have hm52 := (Mem.pick4 Hs Hl Ha Hw Hs46 _ hm51)
               have hm53 := (Mem.pick5 Hs46 Hs Hl Ha Hw [_] _ hm52)
               exact ⟨⟨(k + 1), vn, Hs46, oM, (GrowK.cast g46 (crash_put (by rw [hjn, hnn, hpk]))), s0, s1, s4, rfl, (by
                 have hT := hm53
                 simp only [List.append_assoc, List.cons_append, List.nil_append, List.append_nil] at hT ⊢
                 exact hT)⟩, meas (rfl) z5 oM oM⟩
   · -- false
     have hc11p := of_decide_eq_false hc11
     have hcb : (crashK ll ps (picksB qs) k) = (crashB ll ps qs) := by unfold crashB; rw [show k = ps.length by omega]
     refine cw_exit ?_
     refine kThen_exit (kThen_exit (kBlk_hit ?_))
     refine sR <| rM rfl s0 <| rM rfl s4 <| rw_q rfl (ev_nilCheck rfl) <| rw_q rfl (ev_fa (r := 0) uT63 rfl (by first | rfl | omega) ti61 rfl rfl) <| rw_n (or_store1 ti61 rfl rfl gn.one hm10.h0 (by simp) (.inl (Nat.zero_le _))) ?_
     rintro _ w54 uq54
     have hm54 : Mem w54 R ([(br, .cells #[vn, vl, va, vw] 63 (0, 0))] ++ (Hn ++ (Hs ++ (Hl ++ (Ha ++ (Hw ++ ([]))))))) := hm10.upd0 uq54
     refine rN (cw_region ?_)
     refine rM rfl s0 ?_
     have hF56 : Mem w54 R (([(br, .cells #[vn, vl, va, vw] 63 (0, 0))] ++ (Hn ++ (Hl ++ (Ha ++ (Hw ++ ([])))))) ++ (Hs ++ ([]))) := by
       have hT := (Mem.pick4 Hn Hl Ha Hw [_] _ (Mem.pick4 Hl Ha Hw [_] Hn _ (Mem.pick5 Ha Hw [_] Hn Hs Hl _ (Mem.pick5 Hw [_] Hn Hs Hl Ha _ (Mem.pick5 [_] Hn Hs Hl Ha Hw _ hm54)))))
       simp only [List.append_assoc, List.cons_append, List.nil_append, List.append_nil] at hT ⊢
       exact hT
     refine rw_c rfl (opR_call Try.func33 bd33 nm33 (args1 rfl) (c_rsync br vn (crashK ll ps (picksB qs) k) Hn vl ll Hl va (ps.map WriteT.at_) Ha vw (ps.map WriteT.b) Hw _ _ (Mem.give hF56) gn gl ga gw sL)) ?_
     rintro _ w55 ⟨Hs2q57, vl2q57, Hl2q57, va2q57, Ha2q57, vw2q57, Hw2q57, rfl, gs2q57, gl2q57, ga2q57, gw2q57, k_w55⟩
     have hm55 : Mem w55 R ([(br, .cells #[vn, vl2q57, va2q57, vw2q57] 63 (0, 0))] ++ (Hs2q57 ++ (Hl2q57 ++ (Ha2q57 ++ (Hw2q57 ++ (Hs ++ ([]))))))) := (by
       have hT := Mem.back hF56 k_w55
       simp only [List.append_assoc, List.cons_append, List.nil_append, List.append_nil] at hT ⊢
       exact hT)
     refine rw_nil <| fnPost_normal [] trivial ?_
     have hm58 := Mem.drop Hs _ (Mem.pick5 [_] Hs2q57 Hl2q57 Ha2q57 Hw2q57 Hs _ hm55)
     exact ⟨vn, Hs2q57, vl2q57, Hl2q57, va2q57, Ha2q57, vw2q57, Hw2q57, rfl, GrowK.cast gs2q57 hcb, GrowK.cast gl2q57 hcb, ga2q57, gw2q57, (by
       have hT := hm58
       simp only [List.append_assoc, List.cons_append, List.nil_append, List.append_nil] at hT ⊢
       exact hT)⟩


end Go.Proofs.Ytfmjfojhcmmgcaa
