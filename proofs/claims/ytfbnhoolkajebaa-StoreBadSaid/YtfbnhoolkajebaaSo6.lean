/- Contract: the document's pairs of bytes. Conditions: none beyond those that each theorem states. -/
import Derived.Test.YtfbnhoolkajebaaSo5
namespace Go.Proofs.Ytfbnhoolkajebaa
set_option linter.unusedVariables false
set_option linter.unusedSimpArgs false
attribute [local irreducible] natB tkN tkOk kN vN_ oneOk oneR decF decP decV decE rightB
set_option maxHeartbeats 2000000 in
theorem c_rdecode16 (vb : Value) (b : List (BitVec 8)) (w0 : World)  (hb : Rd (blks w0) u8 vb b) (hbl : b.length ≤ 1048576) : CallsR Try.prog 35 #[vb] w0 (fun r w1 => ∃ v ps Ho He, r = .tuple #[v, i64 (decE b)] ∧ ps.map oneOf = decV b ∧ GrowK encP 3 79 v ps Ho ∧ ElP He ps ∧ Mem w1 (restOf w0) (Ho ++ He)) := by
 refine callsR_of_cw (args := [vb]) Try.func35 rfl Try.ntmps35 Try.results35 rfl ?_
 have hm0 : Mem w0 (restOf w0) [] := Mem.of_world w0
 refine sR <| rw_q rfl (ev_assign (v := (Value.slice none 0 0)) rfl) <| rw_q rfl (ev_assign (v := (i64 0)) rfl) ?_
 refine rN (sR ?_)
 refine rw_c rfl (or_buildSlice_p (c := #[]) hm0 uT55 ti79 rfl pm_nil (by kernel_rfl)) ?_
 rintro _ w1 ⟨b10, rfl, _ew1, hm1⟩
 have hm1 : Mem w1 (restOf w0) [(b10, .cells #[] 79 (0, 0))] := hm1
 refine rw_q rfl (ev_assign (v := (slc b10 0 0 0)) rfl) ?_
 refine rN (sR ?_)
 refine rw_q rfl (ev_assign (v := (i64 0)) rfl) ?_
 refine rN (cw_seq (cw_block ?_))
 refine cw_loop (fun g wv => ∃ (f a : Nat) (vo : Value) (ps : List PairT) (Ho He : List (Nat × Obj)), (a ≤ b.length) ∧ ((b.drop a).length ≤ f) ∧ ((decF f (b.drop a)).map (ps.map oneOf ++ ·) = decP b) ∧ (ps.length ≤ a) ∧ (GrowK encP 3 79 vo ps Ho) ∧ (ElP He ps) ∧ g 0 = vb ∧ g 4 = vo ∧ g 5 = (i64 (a : Int)) ∧ Mem wv (restOf w0) (Ho ++ (He ++ ([])))) (fun g wv => ((b.length : Int) - RowKit.intOf (g 5)).toNat) ?_ ?_
 · exact ⟨b.length, 0, (slc b10 0 0 0), [], [(b10, .cells #[] 79 (0, 0))], [], (Nat.zero_le _), (Nat.le_refl _), (by show (decF b.length b).map ([] ++ ·) = _; unfold decP; simp), (Nat.zero_le _), (GrowK.of encP 3 79 b10 [] rfl (by simp)), ElP.nil, rfl, rfl, rfl, (by
   have hT := hm1
   try simp only [List.append_assoc, List.cons_append, List.nil_append, List.append_nil] at hT ⊢
   exact hT)⟩
 · rintro fr2 w3 ⟨f, a, vo, ps, Ho, He, ha, hf, hD, hpl, go, hel, s0, s4, s5, hm3⟩
   have z4 := s4
   have z5 := s5
   refine cw_seq (sR ?_)
   refine rM rfl s5 <| rM rfl s0 <| rw_q (v := (i64 (b.length : Int))) rfl (ev_len_rd (Rd.ofRest hb hm3) uT23 rfl) <| rw_q rfl (ev_i64_lss rfl rfl) <| rN ?_
   refine cw_cond rfl (fun hc4 => ?_) (fun hc4 => ?_)
   · -- true
     have hc4p := of_decide_eq_true hc4
     have hl0 : 0 < (b.drop a).length := by rw [List.length_drop]; omega
     have hkl0 := kN_lt (b.drop a)
     have hb1 := (b.getD (a + 1) 0).isLt
     have hb2 := (b.getD (a + 2) 0).isLt
     refine cw_skip (kThen_normal (cw_block' (cw_seq (sR ?_))))
     refine rM rfl s5 <| rw_q rfl (ev_i64_add (b := 3) rfl rfl oM oM) <| rM rfl s0 <| rw_q (v := (i64 (b.length : Int))) rfl (ev_len_rd (Rd.ofRest hb hm3) uT23 rfl) <| rw_q rfl (ev_i64_gtr rfl rfl) <| rw_q rfl (ev_move (v := (bl (decide ((b.length : Int) < ((a : Int) + 3))))) rfl) ?_
     rcases Bool.eq_false_or_eq_true (decide ((b.length : Int) < ((a : Int) + 3))) with hb5 | hb5
     · -- true
       have hb5p := of_decide_eq_true hb5
       refine rw_gn (s := 20) rfl rfl hb5 rfl <| rw_gn (s := 20) rfl rfl hb5 rfl <| rw_gn (s := 20) rfl rfl hb5 rfl <| rw_gn (s := 20) rfl rfl hb5 rfl <| rw_gn (s := 20) rfl rfl hb5 rfl <| rw_q rfl (ev_pick_tk rfl hb5 rfl) ?_
       refine rN <| cw_cond_t rfl (by decide) <| sR <| rw_q rfl (ev_assign (v := (Value.slice none 0 0)) rfl) <| rw_q rfl (ev_assign (v := (i64 3)) rfl) <| rN ?_
       refine CW.abs (fun g => g 0 = vb ∧ g 2 = (Value.slice none 0 0) ∧ g 3 = (i64 3) ∧ g 4 = vo ∧ g 5 = (i64 (a : Int)) ∧ g 14 = (bl (decide ((a : Int) < (b.length : Int)))) ∧ g 26 = (bl true) ∧ True) ⟨s0, rfl, rfl, s4, s5, rfl, rfl, trivial⟩ ?_
       rintro fr6 ⟨s0, s2, s3, s4, s5, s14, s26, _⟩
       refine cw_ret ?_
       refine kThen_ret (kBlk_ret (kThen_ret (kBlk_ret ?_)))
       refine fnPost_ret [(Value.slice none 0 0), (i64 3)] ⟨s2, s3, trivial⟩ ?_
       have hm7 := Mem.drop Ho _ hm3
       have hm8 := Mem.drop He _ hm7
       have h11 : (1#8).toNat = 1 := rfl
       have hno := dec_none (dec_no hl0 (one_no (fun hq => by obtain ⟨q1, q2, q3, q4, q5⟩ := hq; omega)) hD)
       rw [hno.1, hno.2]
       exact ⟨_, [], [], [], rfl, rfl, GrowK.none encP 3 79, ElP.nil, by simpa using hm8⟩
     · -- false
       have hb5p := of_decide_eq_false hb5
       refine rw_gyq (s := 20) rfl rfl hb5 rfl (ev_move s0) <| rw_gyq (s := 20) rfl rfl hb5 rfl (ev_move s5) <| rw_gyq (s := 20) rfl rfl hb5 rfl (ev_indexAddr_rdv (Rd.ofRest hb hm3) uT23 ti5 rfl rfl oM sL) <| rw_gyq (s := 20) rfl rfl hb5 rfl (ev_load_rdD (l := b) (i := (a : Int)) (dflt := 0) (Rd.ofRest hb hm3) uT5 rfl oM sL rfl) <| rw_gyq (s := 20) rfl rfl hb5 rfl (ev_u8_gtr (b := 1#8) rfl rfl) <| rw_q rfl (ev_pick_fk rfl hb5 rfl) ?_
       refine rN ?_
       refine cw_cond rfl (fun hc9 => ?_) (fun hc9 => ?_)
       · -- true
         have hc9p := of_decide_eq_true hc9
         refine sR <| rw_q rfl (ev_assign (v := (Value.slice none 0 0)) rfl) <| rw_q rfl (ev_assign (v := (i64 3)) rfl) <| rN ?_
         refine CW.abs (fun g => g 0 = vb ∧ g 2 = (Value.slice none 0 0) ∧ g 3 = (i64 3) ∧ g 4 = vo ∧ g 5 = (i64 (a : Int)) ∧ g 14 = (bl (decide ((a : Int) < (b.length : Int)))) ∧ g 26 = (bl (decide ((1#8).toNat < (b.getD a 0).toNat))) ∧ True) ⟨s0, rfl, rfl, s4, s5, rfl, rfl, trivial⟩ ?_
         rintro fr10 ⟨s0, s2, s3, s4, s5, s14, s26, _⟩
         refine cw_ret ?_
         refine kThen_ret (kBlk_ret (kThen_ret (kBlk_ret ?_)))
         refine fnPost_ret [(Value.slice none 0 0), (i64 3)] ⟨s2, s3, trivial⟩ ?_
         have hm11 := Mem.drop Ho _ hm3
         have hm12 := Mem.drop He _ hm11
         have h11 : (1#8).toNat = 1 := rfl
         have hgt := of_decide_eq_true hc9
         rw [Int.toNat_natCast] at hgt
         have hno := dec_none (dec_no hl0 (one_no (fun hq => by obtain ⟨q1, q2, q3, q4, q5⟩ := hq; omega)) hD)
         rw [hno.1, hno.2]
         exact ⟨_, [], [], [], rfl, rfl, GrowK.none encP 3 79, ElP.nil, by simpa using hm12⟩
       · -- false
         have hc9p := of_decide_eq_false hc9
         refine cw_skip (kThen_normal (cw_seq ?_))
         refine cw_draw [(0, false), (1, false), (2, false), (3, false), (4, false), (5, false), (6, false), (7, false), (8, false), (9, false), (10, false), (11, false), (12, false)] 13 (by kernel_rfl) <| dM rfl rfl s0 <| dM rfl rfl s5 <| dw_q rfl rfl (fun _ _hx => ev_i64_add (b := 1) rfl rfl oM oM) <| dw_q rfl rfl (fun _ _hx => ev_indexAddr_rdv (Rd.ofRest hb (hm3.ext _hx)) uT23 ti5 rfl rfl oM sL) <| dw_q (v := (u8 (b.getD (((a : Int) + 1 : Int).toNat) 0))) rfl rfl (fun _ _hx => ev_load_rdD (l := b) (i := (a : Int) + 1) (dflt := 0) (Rd.ofRest hb (hm3.ext _hx)) uT5 rfl oM sL rfl) ?_
         refine dw_q rfl rfl (fun _ _hx => ev_conv_u8_i64 ⟨_, uT5⟩ uT3 rfl) <| dw_q rfl rfl (fun _ _hx => ev_i64_mul (a := 256) rfl rfl oM oM) <| dM rfl rfl s0 <| dM rfl rfl s5 <| dw_q rfl rfl (fun _ _hx => ev_i64_add (b := 2) rfl rfl oM oM) <| dw_q rfl rfl (fun _ _hx => ev_indexAddr_rdv (Rd.ofRest hb (hm3.ext _hx)) uT23 ti5 rfl rfl oM sL) ?_
         refine dw_q (v := (u8 (b.getD (((a : Int) + 2 : Int).toNat) 0))) rfl rfl (fun _ _hx => ev_load_rdD (l := b) (i := (a : Int) + 2) (dflt := 0) (Rd.ofRest hb (hm3.ext _hx)) uT5 rfl oM sL rfl) <| dw_q rfl rfl (fun _ _hx => ev_conv_u8_i64 ⟨_, uT5⟩ uT3 rfl) ?_
         refine dw_nil (fun w13 _ew13 => ?_)
         have hm13 := hm3.ext _ew13
         refine rw_q rfl (ev_i64_add rfl rfl oM oM) <| rA rfl rfl <| rN ?_
         refine CW.abs (fun g => g 0 = vb ∧ g 4 = vo ∧ g 5 = (i64 (a : Int)) ∧ g 6 = (i64 ((256 * ((b.getD (((a : Int) + 1 : Int).toNat) 0).toNat : Int)) + ((b.getD (((a : Int) + 2 : Int).toNat) 0).toNat : Int))) ∧ g 14 = (bl (decide ((a : Int) < (b.length : Int)))) ∧ g 26 = (bl (decide ((1#8).toNat < (b.getD a 0).toNat))) ∧ True) ⟨s0, s4, s5, rfl, rfl, rfl, trivial⟩ ?_
         rintro fr14 ⟨s0, s4, s5, s6, s14, s26, _⟩
         refine cw_seq ?_
         have hk3 : a + 3 ≤ b.length := by omega
         have hke := kN_at hk3
         refine CW.abs (fun g => g 0 = vb ∧ g 4 = vo ∧ g 5 = (i64 (a : Int)) ∧ g 6 = (i64 (kN (b.drop a) : Int)) ∧ g 14 = (bl (decide ((a : Int) < (b.length : Int)))) ∧ g 26 = (bl (decide ((1#8).toNat < (b.getD a 0).toNat))) ∧ True) ⟨s0, s4, s5, (Eq.trans s6 (congrArg i64 (by rw [show ((a : Int) + 1 : Int).toNat = a + 1 by omega, show ((a : Int) + 2 : Int).toNat = a + 2 by omega]; omega))), s14, s26, trivial⟩ ?_
         rintro fr15 ⟨s0, s4, s5, s6, s14, s26, _⟩
         refine cw_region <| rM rfl s5 <| rw_q rfl (ev_i64_add (b := 3) rfl rfl oM oM) <| rM rfl s6 <| rw_q rfl (ev_i64_add rfl rfl oM oM) <| rw_q rfl (ev_assign (v := (i64 (((a : Int) + 3) + (kN (b.drop a) : Int)))) rfl) ?_
         refine rN (cw_seq (cw_seq ?_))
         refine CW.abs (fun g => g 0 = vb ∧ g 4 = vo ∧ g 5 = (i64 (a : Int)) ∧ g 6 = (i64 (kN (b.drop a) : Int)) ∧ g 7 = (i64 ((a + 3 + kN (b.drop a) : Nat) : Int)) ∧ g 14 = (bl (decide ((a : Int) < (b.length : Int)))) ∧ g 26 = (bl (decide ((1#8).toNat < (b.getD a 0).toNat))) ∧ True) ⟨s0, s4, s5, s6, (Eq.trans rfl (congrArg i64 oM)), s14, s26, trivial⟩ ?_
         rintro fr16 ⟨s0, s4, s5, s6, s7, s14, s26, _⟩
         refine cw_region <| rM rfl s7 <| rw_q rfl (ev_i64_add (b := 4) rfl rfl oM oM) <| rM rfl s0 <| rw_q (v := (i64 (b.length : Int))) rfl (ev_len_rd (Rd.ofRest hb hm13) uT23 rfl) <| rw_q rfl (ev_i64_gtr rfl rfl) ?_
         refine rN ?_
         refine cw_cond rfl (fun hc17 => ?_) (fun hc17 => ?_)
         · -- true
           have hc17p := of_decide_eq_true hc17
           refine sR <| rw_q rfl (ev_assign (v := (Value.slice none 0 0)) rfl) <| rw_q rfl (ev_assign (v := (i64 3)) rfl) ?_
           refine rN (cw_ret ?_)
           refine kThen_ret (kBlk_ret (kThen_ret (kBlk_ret ?_)))
           refine fnPost_ret [(Value.slice none 0 0), (i64 3)] ⟨rfl, rfl, trivial⟩ ?_
           have hm18 := Mem.drop Ho _ hm13
           have hm19 := Mem.drop He _ hm18
           have h11 : (1#8).toNat = 1 := rfl
           have hgt := of_decide_eq_false hc9
           rw [Int.toNat_natCast] at hgt
           have hno := dec_none (dec_no hl0 (one_no (fun hq => by obtain ⟨q1, q2, q3, q4, q5⟩ := hq; omega)) hD)
           rw [hno.1, hno.2]
           exact ⟨_, [], [], [], rfl, rfl, GrowK.none encP 3 79, ElP.nil, by simpa using hm19⟩
         · -- false
           have hc17p := of_decide_eq_false hc17
           refine cw_skip (kThen_normal (cw_seq ?_))
           have hv4 : a + 3 + kN (b.drop a) + 4 ≤ b.length := by omega
           have hve := vN_at rfl hv4
           refine cw_draw [(0, false), (1, false), (2, false), (3, false), (4, false), (5, false), (6, false), (7, false), (8, false), (9, false), (10, false), (11, false), (12, false), (13, false), (14, false), (15, false), (16, false), (17, false), (18, false), (19, false), (20, false), (21, false), (22, false), (23, false), (24, false), (25, false), (26, false), (27, false)] 28 (by kernel_rfl) <| dM rfl rfl s0 <| dM rfl rfl s7 <| dw_q rfl rfl (fun _ _hx => ev_indexAddr_rdv (Rd.ofRest hb (hm13.ext _hx)) uT23 ti5 rfl rfl oM sL) <| dw_q (v := (u8 (b.getD (a + 3 + kN (b.drop a)) 0))) rfl rfl (fun _ _hx => ev_load_rdD (l := b) (i := ((a + 3 + kN (b.drop a) : Nat) : Int)) (dflt := 0) (Rd.ofRest hb (hm13.ext _hx)) uT5 rfl oM sL rfl) <| dw_q rfl rfl (fun _ _hx => ev_conv_u8_i64 ⟨_, uT5⟩ uT3 rfl) ?_
           refine dw_q rfl rfl (fun _ _hx => ev_i64_mul (a := 16777216) rfl rfl oM oM) <| dM rfl rfl s0 <| dM rfl rfl s7 <| dw_q rfl rfl (fun _ _hx => ev_i64_add (b := 1) rfl rfl oM oM) <| dw_q rfl rfl (fun _ _hx => ev_indexAddr_rdv (Rd.ofRest hb (hm13.ext _hx)) uT23 ti5 rfl rfl oM sL) <| dw_q (v := (u8 (b.getD ((((a + 3 + kN (b.drop a) : Nat) : Int) + 1 : Int).toNat) 0))) rfl rfl (fun _ _hx => ev_load_rdD (l := b) (i := ((a + 3 + kN (b.drop a) : Nat) : Int) + 1) (dflt := 0) (Rd.ofRest hb (hm13.ext _hx)) uT5 rfl oM sL rfl) ?_
           refine dw_q rfl rfl (fun _ _hx => ev_conv_u8_i64 ⟨_, uT5⟩ uT3 rfl) <| dw_q rfl rfl (fun _ _hx => ev_i64_mul (a := 65536) rfl rfl oM oM) <| dw_q rfl rfl (fun _ _hx => ev_i64_add rfl rfl oM oM) <| dM rfl rfl s0 <| dM rfl rfl s7 <| dw_q rfl rfl (fun _ _hx => ev_i64_add (b := 2) rfl rfl oM oM) ?_
           refine dw_q rfl rfl (fun _ _hx => ev_indexAddr_rdv (Rd.ofRest hb (hm13.ext _hx)) uT23 ti5 rfl rfl oM sL) <| dw_q (v := (u8 (b.getD ((((a + 3 + kN (b.drop a) : Nat) : Int) + 2 : Int).toNat) 0))) rfl rfl (fun _ _hx => ev_load_rdD (l := b) (i := ((a + 3 + kN (b.drop a) : Nat) : Int) + 2) (dflt := 0) (Rd.ofRest hb (hm13.ext _hx)) uT5 rfl oM sL rfl) <| dw_q rfl rfl (fun _ _hx => ev_conv_u8_i64 ⟨_, uT5⟩ uT3 rfl) <| dw_q rfl rfl (fun _ _hx => ev_i64_mul (a := 256) rfl rfl oM oM) <| dw_q rfl rfl (fun _ _hx => ev_i64_add rfl rfl oM oM) <| dM rfl rfl s0 ?_
           refine dM rfl rfl s7 <| dw_q rfl rfl (fun _ _hx => ev_i64_add (b := 3) rfl rfl oM oM) <| dw_q rfl rfl (fun _ _hx => ev_indexAddr_rdv (Rd.ofRest hb (hm13.ext _hx)) uT23 ti5 rfl rfl oM sL) <| dw_q (v := (u8 (b.getD ((((a + 3 + kN (b.drop a) : Nat) : Int) + 3 : Int).toNat) 0))) rfl rfl (fun _ _hx => ev_load_rdD (l := b) (i := ((a + 3 + kN (b.drop a) : Nat) : Int) + 3) (dflt := 0) (Rd.ofRest hb (hm13.ext _hx)) uT5 rfl oM sL rfl) <| dw_q rfl rfl (fun _ _hx => ev_conv_u8_i64 ⟨_, uT5⟩ uT3 rfl) ?_
           refine dw_nil (fun w20 _ew20 => ?_)
           have hm20 := hm13.ext _ew20
           refine rw_q rfl (ev_i64_add rfl rfl oM oM) <| rA rfl rfl <| rN ?_
           refine CW.abs (fun g => g 0 = vb ∧ g 4 = vo ∧ g 5 = (i64 (a : Int)) ∧ g 6 = (i64 (kN (b.drop a) : Int)) ∧ g 7 = (i64 ((a + 3 + kN (b.drop a) : Nat) : Int)) ∧ g 8 = (i64 ((((16777216 * ((b.getD (a + 3 + kN (b.drop a)) 0).toNat : Int)) + (65536 * ((b.getD ((((a + 3 + kN (b.drop a) : Nat) : Int) + 1 : Int).toNat) 0).toNat : Int))) + (256 * ((b.getD ((((a + 3 + kN (b.drop a) : Nat) : Int) + 2 : Int).toNat) 0).toNat : Int))) + ((b.getD ((((a + 3 + kN (b.drop a) : Nat) : Int) + 3 : Int).toNat) 0).toNat : Int))) ∧ g 14 = (bl (decide ((a : Int) < (b.length : Int)))) ∧ g 26 = (bl (decide ((1#8).toNat < (b.getD a 0).toNat))) ∧ g 49 = (bl (decide ((b.length : Int) < (((a + 3 + kN (b.drop a) : Nat) : Int) + 4)))) ∧ True) ⟨s0, s4, s5, s6, s7, rfl, s14, s26, rfl, trivial⟩ ?_
           rintro fr21 ⟨s0, s4, s5, s6, s7, s8, s14, s26, s49, _⟩
           refine cw_seq (cw_seq ?_)
           refine CW.abs (fun g => g 0 = vb ∧ g 4 = vo ∧ g 5 = (i64 (a : Int)) ∧ g 6 = (i64 (kN (b.drop a) : Int)) ∧ g 7 = (i64 ((a + 3 + kN (b.drop a) : Nat) : Int)) ∧ g 8 = (i64 (vN_ (b.drop a) : Int)) ∧ g 14 = (bl (decide ((a : Int) < (b.length : Int)))) ∧ g 26 = (bl (decide ((1#8).toNat < (b.getD a 0).toNat))) ∧ g 49 = (bl (decide ((b.length : Int) < (((a + 3 + kN (b.drop a) : Nat) : Int) + 4)))) ∧ True) ⟨s0, s4, s5, s6, s7, (Eq.trans s8 (congrArg i64 (by rw [show (((a + 3 + kN (b.drop a) : Nat) : Int) + 1 : Int).toNat = a + 3 + kN (b.drop a) + 1 by omega, show (((a + 3 + kN (b.drop a) : Nat) : Int) + 2 : Int).toNat = a + 3 + kN (b.drop a) + 2 by omega, show (((a + 3 + kN (b.drop a) : Nat) : Int) + 3 : Int).toNat = a + 3 + kN (b.drop a) + 3 by omega]; omega))), s14, s26, s49, trivial⟩ ?_
           rintro fr22 ⟨s0, s4, s5, s6, s7, s8, s14, s26, s49, _⟩
           refine cw_region <| rM rfl s8 <| rM rfl s0 <| rw_q (v := (i64 (b.length : Int))) rfl (ev_len_rd (Rd.ofRest hb hm20) uT23 rfl) <| rM rfl s7 <| rw_q rfl (ev_i64_sub rfl rfl oM oM) ?_
           refine rw_q rfl (ev_i64_sub (b := 4) rfl rfl oM oM) <| rw_q rfl (ev_i64_gtr rfl rfl) <| rN ?_
           refine cw_cond rfl (fun hc23 => ?_) (fun hc23 => ?_)
           · -- true
             have hc23p := of_decide_eq_true hc23
             refine sR <| rw_q rfl (ev_assign (v := (Value.slice none 0 0)) rfl) <| rw_q rfl (ev_assign (v := (i64 3)) rfl) ?_
             refine rN (cw_ret ?_)
             refine kThen_ret (kBlk_ret (kThen_ret (kBlk_ret ?_)))
             refine fnPost_ret [(Value.slice none 0 0), (i64 3)] ⟨rfl, rfl, trivial⟩ ?_
             have hm24 := Mem.drop Ho _ hm20
             have hm25 := Mem.drop He _ hm24
             have h11 : (1#8).toNat = 1 := rfl
             have hgt := of_decide_eq_false hc9
             rw [Int.toNat_natCast] at hgt
             have hno := dec_none (dec_no hl0 (one_no (fun hq => by obtain ⟨q1, q2, q3, q4, q5⟩ := hq; omega)) hD)
             rw [hno.1, hno.2]
             exact ⟨_, [], [], [], rfl, rfl, GrowK.none encP 3 79, ElP.nil, by simpa using hm25⟩
           · -- false
             have hc23p := of_decide_eq_false hc23
             refine cw_skip (kThen_normal (cw_seq ?_))
             refine cw_drawE (by kernel_rfl) ?_
             refine re_or 6 22 rfl rfl ?_ ?_
             · -- 6 ahead of 22
               refine re_or 15 22 rfl rfl ?_ ?_
               · -- 15 ahead of 22
                 have hFM26 : Mem w20 (restOf w0) ([] ++ (Ho ++ (He ++ ([])))) := hm20
                 obtain ⟨RM26, hRM26⟩ : ∃ R2, R2 = Rest.add (restOf w0) (Ho ++ (He ++ ([]))) := ⟨_, rfl⟩
                 have M260 : Mem w20 RM26 [] := by rw [hRM26]; exact Mem.give hFM26
                 have hr27 : Rd RM26.blk u8 vb b := by rw [hRM26]; exact Rd.mono hb fun b o e => Mem.addRest hFM26 e
                 have hg28 : RdK RM26.blk encP 3 vo ps := go.rdIn (fun p hp => by rw [hRM26]; exact Mem.addOwn hFM26 (List.mem_append_left _ hp))
                 refine re_planM M260 [(0, false), (1, false), (2, false), (3, false), (4, false), (5, false), (7, false), (8, false), (9, false), (10, false), (11, false), (12, false), (13, false), (14, false), (16, false), (17, false), (18, false), (19, false), (20, false), (6, true), (15, true), (21, false), (22, true)] 23 rfl (by kernel_rfl) <| dk_q rfl rfl (fun w _H _hx => ev_move s0) <| dk_q rfl rfl (fun w _H _hx => ev_move s5) <| dk_q rfl rfl (fun w _H _hx => ev_i64_add (b := 3) rfl rfl oM oM) <| dk_q rfl rfl (fun w _H _hx => ev_move s7) <| dk_q rfl rfl (fun w _H _hx => ev_slice_rd (i := (a : Int) + 3) (j := ((a + 3 + kN (b.drop a) : Nat) : Int)) (Rd.ofRest hr27 _hx) uT23 ti5 rfl (optI_some (k := .i64) (i := (a : Int) + 3) rfl) (optI_some (k := .i64) (i := ((a + 3 + kN (b.drop a) : Nat) : Int)) rfl) oM sL sL) ?_
                 refine dk_q rfl rfl (fun w _H _hx => ev_b2s (l := (b.drop ((a : Int) + 3 : Int).toNat).take ((((a + 3 + kN (b.drop a) : Nat) : Int) : Int).toNat - ((a : Int) + 3 : Int).toNat)) (Rd.cast (l' := (b.drop ((a : Int) + 3 : Int).toNat).take ((((a + 3 + kN (b.drop a) : Nat) : Int) : Int).toNat - ((a : Int) + 3 : Int).toNat)) (Rd.sub (Rd.ofRest hr27 _hx) oM sL sL) rfl) uT23 uT5 uT9 rfl) <| dk_q rfl rfl (fun w _H _hx => ev_move s0) <| dk_q rfl rfl (fun w _H _hx => ev_move s7) <| dk_q rfl rfl (fun w _H _hx => ev_i64_add (b := 4) rfl rfl oM oM) <| dk_q rfl rfl (fun w _H _hx => ev_move s7) <| dk_q rfl rfl (fun w _H _hx => ev_i64_add (b := 4) rfl rfl oM oM) ?_
                 refine dk_q rfl rfl (fun w _H _hx => ev_move s8) <| dk_q rfl rfl (fun w _H _hx => ev_i64_add rfl rfl oM oM) <| dk_q rfl rfl (fun w _H _hx => ev_slice_rd (i := ((a + 3 + kN (b.drop a) : Nat) : Int) + 4) (j := (((a + 3 + kN (b.drop a) : Nat) : Int) + 4) + (vN_ (b.drop a) : Int)) (Rd.ofRest hr27 _hx) uT23 ti5 rfl (optI_some (k := .i64) (i := ((a + 3 + kN (b.drop a) : Nat) : Int) + 4) rfl) (optI_some (k := .i64) (i := (((a + 3 + kN (b.drop a) : Nat) : Int) + 4) + (vN_ (b.drop a) : Int)) rfl) oM sL sL) <| dk_q rfl rfl (fun w _H _hx => ev_move s0) <| dk_q rfl rfl (fun w _H _hx => ev_move s5) <| dk_q rfl rfl (fun w _H _hx => ev_indexAddr_rdv (Rd.ofRest hr27 _hx) uT23 ti5 rfl rfl oM sL) ?_
                 refine dk_q (v := (u8 (b.getD a 0))) rfl rfl (fun w _H _hx => ev_load_rdD (l := b) (i := (a : Int)) (dflt := 0) (Rd.ofRest hr27 _hx) uT5 rfl oM sL rfl) <| dk_q rfl rfl (fun w _H _hx => ev_u8_eql (b := 1#8) rfl rfl) ?_
                 refine dk_c rfl rfl (fun w29 _ew29 => ?_)
                 have hm29 := M260.ext _ew29
                 refine OpR.mono (or_buildSlice_cl u8 [] u8_one hm29 uT23 ti5 rfl (by simp [pairs]) rfl) ?_
                 rintro _ w30 ⟨b92, rfl, _ew30, hm30⟩
                 refine ⟨⟨_, hm30⟩, ?_⟩
                 refine dk_c rfl rfl (fun w31 _ew31 => ?_)
                 have hm31 := hm30.ext _ew31
                 refine OpR.mono (or_append (f := u8) (Hs := [(b92, .cells (cl u8 ([])) 5 (0, 0))]) (H := []) hm31 (Grow.of u8 5 b92 ([])) rfl rfl (Rd.cast (l' := (b.drop (((a + 3 + kN (b.drop a) : Nat) : Int) + 4 : Int).toNat).take (((((a + 3 + kN (b.drop a) : Nat) : Int) + 4) + (vN_ (b.drop a) : Int) : Int).toNat - (((a + 3 + kN (b.drop a) : Nat) : Int) + 4 : Int).toNat)) (Rd.sub (Rd.ofRest hr27 hm31) oM sL sL) rfl) uT23 uT23 ti5 rfl u8_one sL sL) ?_
                 rintro sv32 w32 ⟨Hs32, hm32, g32⟩
                 replace g32 : Grow u8 5 sv32 ((b.drop (((a + 3 + kN (b.drop a) : Nat) : Int) + 4 : Int).toNat).take (((((a + 3 + kN (b.drop a) : Nat) : Int) + 4) + (vN_ (b.drop a) : Int) : Int).toNat - (((a + 3 + kN (b.drop a) : Nat) : Int) + 4 : Int).toNat)) Hs32 := g32
                 refine ⟨⟨_, hm32⟩, ?_⟩
                 refine dk_q rfl rfl (fun w _H _hx => ev_build_pt (c := #[(Value.string (strOf ((b.drop ((a : Int) + 3 : Int).toNat).take ((((a + 3 + kN (b.drop a) : Nat) : Int) : Int).toNat - ((a : Int) + 3 : Int).toNat)))), sv32, (bl ((b.getD a 0) == 1#8))]) (pl := [(0, 1), (1, 1), (2, 1)]) ti79 uT79 (by kernel_rfl) (pm_cons (i := 0) (v := (Value.string (strOf ((b.drop ((a : Int) + 3 : Int).toNat).take ((((a + 3 + kN (b.drop a) : Nat) : Int) : Int).toNat - ((a : Int) + 3 : Int).toNat))))) (cs := #[(Value.string (strOf ((b.drop ((a : Int) + 3 : Int).toNat).take ((((a + 3 + kN (b.drop a) : Nat) : Int) : Int).toNat - ((a : Int) + 3 : Int).toNat))))]) rfl rfl (pm_cons (i := 1) (v := sv32) (cs := #[sv32]) rfl (one_cells g32.one) (pm_cons (i := 2) (v := (bl ((b.getD a 0) == 1#8))) (cs := #[(bl ((b.getD a 0) == 1#8))]) rfl rfl pm_nil))) (by kernel_rfl)) ?_
                 refine dk_c rfl rfl (fun w33 _ew33 => ?_)
                 have hm33 := hm32.ext _ew33
                 refine OpR.mono (or_allocX hm33 ti79) ?_
                 rintro _ w34 ⟨b9, rfl, _ew34, hm34⟩
                 refine ⟨⟨_, hm34⟩, ?_⟩
                 refine dw_nil (fun w35 _ew35 => ?_)
                 have hm35 := hm34.ext _ew35
                 have hX36 := hm35
                 rw [hRM26] at hX36
                 have hm37 : Mem w35 (restOf w0) ([(b9, .cells #[(Value.string ByteArray.empty), (Value.slice none 0 0), (bl false)] 79 (0, 0))] ++ (Hs32 ++ (Ho ++ (He ++ ([]))))) := (by
                   have hT := Mem.back hFM26 hX36
                   try simp only [List.append_assoc, List.cons_append, List.nil_append, List.append_nil] at hT ⊢
                   exact hT)
                 refine rw_n (or_storeW (cs := #[(Value.string (strOf ((b.drop ((a : Int) + 3 : Int).toNat).take ((((a + 3 + kN (b.drop a) : Nat) : Int) : Int).toNat - ((a : Int) + 3 : Int).toNat)))), sv32, (bl ((b.getD a 0) == 1#8))]) ti79 rfl rfl (by kernel_rfl) (one_arr (one_cons rfl (one_cons g32.one (one_cons rfl one_nil)))) hm37.h0 (by kernel_rfl) rfl) ?_
                 rintro _ w38 uq38
                 have hm38 : Mem w38 (restOf w0) ([(b9, .cells #[(Value.string (strOf ((b.drop ((a : Int) + 3 : Int).toNat).take ((((a + 3 + kN (b.drop a) : Nat) : Int) : Int).toNat - ((a : Int) + 3 : Int).toNat)))), sv32, (bl ((b.getD a 0) == 1#8))] 79 (0, 0))] ++ (Hs32 ++ (Ho ++ (He ++ ([]))))) := hm37.upd0 uq38
                 refine rN ?_
                 refine CW.abs (fun g => g 0 = vb ∧ g 4 = vo ∧ g 5 = (i64 (a : Int)) ∧ g 6 = (i64 (kN (b.drop a) : Int)) ∧ g 7 = (i64 ((a + 3 + kN (b.drop a) : Nat) : Int)) ∧ g 8 = (i64 (vN_ (b.drop a) : Int)) ∧ g 9 = (ptr b9 0) ∧ g 14 = (bl (decide ((a : Int) < (b.length : Int)))) ∧ g 26 = (bl (decide ((1#8).toNat < (b.getD a 0).toNat))) ∧ g 49 = (bl (decide ((b.length : Int) < (((a + 3 + kN (b.drop a) : Nat) : Int) + 4)))) ∧ g 85 = (bl (decide ((((b.length : Int) - ((a + 3 + kN (b.drop a) : Nat) : Int)) - 4) < (vN_ (b.drop a) : Int)))) ∧ True) ⟨s0, s4, s5, s6, s7, s8, rfl, s14, s26, s49, rfl, trivial⟩ ?_
                 rintro fr39 ⟨s0, s4, s5, s6, s7, s8, s9, s14, s26, s49, s85, _⟩
                 refine cw_seq (cw_seq ?_)
                 have hKe : (b.drop ((a : Int) + 3 : Int).toNat).take ((((a + 3 + kN (b.drop a) : Nat) : Int) : Int).toNat - ((a : Int) + 3 : Int).toNat) = (b.drop (a + 3)).take (kN (b.drop a)) := sub_at oM oM
                 have hVe : (b.drop (((a + 3 + kN (b.drop a) : Nat) : Int) + 4 : Int).toNat).take (((((a + 3 + kN (b.drop a) : Nat) : Int) + 4) + (vN_ (b.drop a) : Int) : Int).toNat - (((a + 3 + kN (b.drop a) : Nat) : Int) + 4 : Int).toNat) = (b.drop (a + (7 + kN (b.drop a)))).take (vN_ (b.drop a)) := sub_at oM oM
                 have hks : (strOf ((b.drop ((a : Int) + 3 : Int).toNat).take ((((a + 3 + kN (b.drop a) : Nat) : Int) : Int).toNat - ((a : Int) + 3 : Int).toNat))).size = kN (b.drop a) := by rw [strOf_size, hKe, List.length_take, List.length_drop]; omega
                 have hvl : ((b.drop (((a + 3 + kN (b.drop a) : Nat) : Int) + 4 : Int).toNat).take (((((a + 3 + kN (b.drop a) : Nat) : Int) + 4) + (vN_ (b.drop a) : Int) : Int).toNat - (((a + 3 + kN (b.drop a) : Nat) : Int) + 4 : Int).toNat)).length = vN_ (b.drop a) := by rw [hVe, List.length_take, List.length_drop]; omega
                 refine cw_region <| rw_q (v := (Value.agg #[(Value.string (strOf ((b.drop ((a : Int) + 3 : Int).toNat).take ((((a + 3 + kN (b.drop a) : Nat) : Int) : Int).toNat - ((a : Int) + 3 : Int).toNat)))), sv32, (bl ((b.getD a 0) == 1#8))])) rfl (ev_loadW uT79 rfl ti79 s9 hm38.h0 (by kernel_rfl)) <| rw_c rfl (opR_call Try.func60 bd60 nm60 (args1 rfl) (c_rright16 (strOf ((b.drop ((a : Int) + 3 : Int).toNat).take ((((a + 3 + kN (b.drop a) : Nat) : Int) : Int).toNat - ((a : Int) + 3 : Int).toNat))) sv32 ((b.drop (((a + 3 + kN (b.drop a) : Nat) : Int) + 4 : Int).toNat).take (((((a + 3 + kN (b.drop a) : Nat) : Int) + 4) + (vN_ (b.drop a) : Int) : Int).toNat - (((a + 3 + kN (b.drop a) : Nat) : Int) + 4 : Int).toNat)) ((b.getD a 0) == 1#8) _ (g32.rd (Mem.pick [_] Hs32 _ hm38)) sL sL)) ?_
                 rintro _ w40 ⟨rfl, _ew40⟩
                 have hm40 := hm38.ext _ew40
                 refine rw_q rfl (ev_not rfl) <| rN ?_
                 refine cw_cond rfl (fun hc42 => ?_) (fun hc42 => ?_)
                 · -- true
                   have hc42n : (rightB (strOf ((b.drop ((a : Int) + 3 : Int).toNat).take ((((a + 3 + kN (b.drop a) : Nat) : Int) : Int).toNat - ((a : Int) + 3 : Int).toNat))).size ((b.drop (((a + 3 + kN (b.drop a) : Nat) : Int) + 4 : Int).toNat).take (((((a + 3 + kN (b.drop a) : Nat) : Int) + 4) + (vN_ (b.drop a) : Int) : Int).toNat - (((a + 3 + kN (b.drop a) : Nat) : Int) + 4 : Int).toNat)).length ((b.getD a 0) == 1#8)) = false := by simpa using hc42
                   refine sR <| rw_q rfl (ev_assign (v := (Value.slice none 0 0)) rfl) <| rw_q rfl (ev_assign (v := (i64 3)) rfl) ?_
                   refine rN (cw_ret ?_)
                   refine kThen_ret (kBlk_ret (kThen_ret (kBlk_ret ?_)))
                   refine fnPost_ret [(Value.slice none 0 0), (i64 3)] ⟨rfl, rfl, trivial⟩ ?_
                   have hm43 := Mem.drop ([(b9, .cells #[(Value.string (strOf ((b.drop ((a : Int) + 3 : Int).toNat).take ((((a + 3 + kN (b.drop a) : Nat) : Int) : Int).toNat - ((a : Int) + 3 : Int).toNat)))), sv32, (bl ((b.getD a 0) == 1#8))] 79 (0, 0))]) _ hm40
                   have hm44 := Mem.drop Hs32 _ hm43
                   have hm45 := Mem.drop Ho _ hm44
                   have hm46 := Mem.drop He _ hm45
                   have h11 : (1#8).toNat = 1 := rfl
                   have hgt := of_decide_eq_false hc9
                   rw [Int.toNat_natCast] at hgt
                   have hrb : rightB (kN (b.drop a)) (vN_ (b.drop a)) (b.getD a 0 == 1#8) = false := by have h := hc42; rw [hks, hvl] at h; simpa using h
                   have hno := dec_none (dec_no hl0 (one_no (fun hq => by obtain ⟨q1, q2, q3, q4, q5⟩ := hq; (rw [hrb] at q5; cases q5))) hD)
                   rw [hno.1, hno.2]
                   exact ⟨_, [], [], [], rfl, rfl, GrowK.none encP 3 79, ElP.nil, by simpa using hm46⟩
                 · -- false
                   have hc42n : (rightB (strOf ((b.drop ((a : Int) + 3 : Int).toNat).take ((((a + 3 + kN (b.drop a) : Nat) : Int) : Int).toNat - ((a : Int) + 3 : Int).toNat))).size ((b.drop (((a + 3 + kN (b.drop a) : Nat) : Int) + 4 : Int).toNat).take (((((a + 3 + kN (b.drop a) : Nat) : Int) + 4) + (vN_ (b.drop a) : Int) : Int).toNat - (((a + 3 + kN (b.drop a) : Nat) : Int) + 4 : Int).toNat)).length ((b.getD a 0) == 1#8)) = true := by simpa using hc42
                   refine cw_skip (kThen_normal (sR ?_))
                   refine rM rfl s4 <| rw_q (v := (Value.agg #[(Value.string (strOf ((b.drop ((a : Int) + 3 : Int).toNat).take ((((a + 3 + kN (b.drop a) : Nat) : Int) : Int).toNat - ((a : Int) + 3 : Int).toNat)))), sv32, (bl ((b.getD a 0) == 1#8))])) rfl (ev_loadW uT79 rfl ti79 s9 hm40.h0 (by kernel_rfl)) <| rw_c rfl (or_buildSlice_k1 (cs := #[(Value.string (strOf ((b.drop ((a : Int) + 3 : Int).toNat).take ((((a + 3 + kN (b.drop a) : Nat) : Int) : Int).toNat - ((a : Int) + 3 : Int).toNat)))), sv32, (bl ((b.getD a 0) == 1#8))]) hm40 uT55 ti79 rfl rfl rfl rfl) ?_
                   rintro _ w47 ⟨b113, rfl, _ew47, hm47⟩
                   have hm47 : Mem w47 (restOf w0) ([(b113, .cells #[(Value.string (strOf ((b.drop ((a : Int) + 3 : Int).toNat).take ((((a + 3 + kN (b.drop a) : Nat) : Int) : Int).toNat - ((a : Int) + 3 : Int).toNat)))), sv32, (bl ((b.getD a 0) == 1#8))] 79 (0, 0)), (b9, .cells #[(Value.string (strOf ((b.drop ((a : Int) + 3 : Int).toNat).take ((((a + 3 + kN (b.drop a) : Nat) : Int) : Int).toNat - ((a : Int) + 3 : Int).toNat)))), sv32, (bl ((b.getD a 0) == 1#8))] 79 (0, 0))] ++ (Hs32 ++ (Ho ++ (He ++ ([]))))) := hm47
                   refine rw_c rfl (or_appendK (enc := encP) (k := 3) (Hs := Ho) (H := [(b113, .cells #[(Value.string (strOf ((b.drop ((a : Int) + 3 : Int).toNat).take ((((a + 3 + kN (b.drop a) : Nat) : Int) : Int).toNat - ((a : Int) + 3 : Int).toNat)))), sv32, (bl ((b.getD a 0) == 1#8))] 79 (0, 0)), (b9, .cells #[(Value.string (strOf ((b.drop ((a : Int) + 3 : Int).toNat).take ((((a + 3 + kN (b.drop a) : Nat) : Int) : Int).toNat - ((a : Int) + 3 : Int).toNat)))), sv32, (bl ((b.getD a 0) == 1#8))] 79 (0, 0))] ++ (Hs32 ++ (He ++ ([])))) (Mem.pick2 [_, _] Hs32 Ho _ hm47) go rfl rfl (RdK.ofOne (enc := encP) (k := 3) (a := (PairT.mk (strOf ((b.drop ((a : Int) + 3 : Int).toNat).take ((((a + 3 + kN (b.drop a) : Nat) : Int) : Int).toNat - ((a : Int) + 3 : Int).toNat))) (toSl sv32 ((b.drop (((a + 3 + kN (b.drop a) : Nat) : Int) + 4 : Int).toNat).take (((((a + 3 + kN (b.drop a) : Nat) : Int) + 4) + (vN_ (b.drop a) : Int) : Int).toNat - (((a + 3 + kN (b.drop a) : Nat) : Int) + 4 : Int).toNat))) ((b.getD a 0) == 1#8))) hm47.h0 (by show _ = #[_, slv (toSl sv32 ((b.drop (((a + 3 + kN (b.drop a) : Nat) : Int) + 4 : Int).toNat).take (((((a + 3 + kN (b.drop a) : Nat) : Int) + 4) + (vN_ (b.drop a) : Int) : Int).toNat - (((a + 3 + kN (b.drop a) : Nat) : Int) + 4 : Int).toNat))), _]; rw [Grow.toSl ((b.drop (((a + 3 + kN (b.drop a) : Nat) : Int) + 4 : Int).toNat).take (((((a + 3 + kN (b.drop a) : Nat) : Int) + 4) + (vN_ (b.drop a) : Int) : Int).toNat - (((a + 3 + kN (b.drop a) : Nat) : Int) + 4 : Int).toNat)) g32]) rfl) uT55 uT55 ti79 rfl rfl (fun a _ => encP_one a) sL sL) ?_
                   rintro sv48 w48 ⟨Hs48, hm48, g48⟩
                   replace g48 : GrowK encP 3 79 sv48 (ps ++ ([(PairT.mk (strOf ((b.drop ((a : Int) + 3 : Int).toNat).take ((((a + 3 + kN (b.drop a) : Nat) : Int) : Int).toNat - ((a : Int) + 3 : Int).toNat))) (toSl sv32 ((b.drop (((a + 3 + kN (b.drop a) : Nat) : Int) + 4 : Int).toNat).take (((((a + 3 + kN (b.drop a) : Nat) : Int) + 4) + (vN_ (b.drop a) : Int) : Int).toNat - (((a + 3 + kN (b.drop a) : Nat) : Int) + 4 : Int).toNat))) ((b.getD a 0) == 1#8))])) Hs48 := g48
                   refine rA rfl (v := sv48) rfl ?_
                   refine rN (cw_region ?_)
                   refine rM rfl s7 <| rw_q rfl (ev_i64_add (b := 4) rfl rfl oM oM) <| rM rfl s8 <| rw_q rfl (ev_i64_add rfl rfl oM oM) <| rw_q rfl (ev_assign (v := (i64 ((((a + 3 + kN (b.drop a) : Nat) : Int) + 4) + (vN_ (b.drop a) : Int)))) rfl) ?_
                   refine rw_nil (kBlk_normal (kThen_normal ?_))
                   have hrb : rightB (kN (b.drop a)) (vN_ (b.drop a)) (b.getD a 0 == 1#8) = true := by have h := hc42; rw [hks, hvl] at h; simpa using h
                   have h11 : (1#8).toNat = 1 := rfl
                   have hgt := of_decide_eq_false hc9
                   rw [Int.toNat_natCast] at hgt
                   have hok : oneOk (b.drop a) = true := ok_one oM oM oM hrb
                   have hdm := dec_more hl0 hf hok hD
                   rw [oneR_at rfl] at hdm
                   have hm49 := Mem.drop ([(b113, .cells #[(Value.string (strOf ((b.drop ((a : Int) + 3 : Int).toNat).take ((((a + 3 + kN (b.drop a) : Nat) : Int) : Int).toNat - ((a : Int) + 3 : Int).toNat)))), sv32, (bl ((b.getD a 0) == 1#8))] 79 (0, 0))]) _ (Mem.pick Hs48 [_] _ hm48)
                   have hm50 := Mem.drop ([(b9, .cells #[(Value.string (strOf ((b.drop ((a : Int) + 3 : Int).toNat).take ((((a + 3 + kN (b.drop a) : Nat) : Int) : Int).toNat - ((a : Int) + 3 : Int).toNat)))), sv32, (bl ((b.getD a 0) == 1#8))] 79 (0, 0))]) _ (Mem.pick Hs48 [_] _ hm49)
                   exact ⟨⟨(f - 1), (vN_ (b.drop a) + (a + 3 + kN (b.drop a)) + 4), sv48, (ps ++ ([(PairT.mk (strOf ((b.drop ((a : Int) + 3 : Int).toNat).take ((((a + 3 + kN (b.drop a) : Nat) : Int) : Int).toNat - ((a : Int) + 3 : Int).toNat))) (toSl sv32 ((b.drop (((a + 3 + kN (b.drop a) : Nat) : Int) + 4 : Int).toNat).take (((((a + 3 + kN (b.drop a) : Nat) : Int) + 4) + (vN_ (b.drop a) : Int) : Int).toNat - (((a + 3 + kN (b.drop a) : Nat) : Int) + 4 : Int).toNat))) ((b.getD a 0) == 1#8))])), Hs48, (Hs32 ++ He), oM, hdm.1, (by rw [List.map_append, List.map_cons, List.map_nil, one_at hKe hVe]; exact hdm.2), (by rw [List.length_append, List.length_singleton]; omega), g48, (ElP.snoc hel g32), s0, rfl, (Eq.trans rfl (congrArg i64 oM)), (by
                     have hT := hm50
                     try simp only [List.append_assoc, List.cons_append, List.nil_append, List.append_nil] at hT ⊢
                     exact hT)⟩, meas (rfl) z5 oM oM⟩
               · -- 22 ahead of 15
                 have hFM51 : Mem w20 (restOf w0) ([] ++ (Ho ++ (He ++ ([])))) := hm20
                 obtain ⟨RM51, hRM51⟩ : ∃ R2, R2 = Rest.add (restOf w0) (Ho ++ (He ++ ([]))) := ⟨_, rfl⟩
                 have M510 : Mem w20 RM51 [] := by rw [hRM51]; exact Mem.give hFM51
                 have hr52 : Rd RM51.blk u8 vb b := by rw [hRM51]; exact Rd.mono hb fun b o e => Mem.addRest hFM51 e
                 have hg53 : RdK RM51.blk encP 3 vo ps := go.rdIn (fun p hp => by rw [hRM51]; exact Mem.addOwn hFM51 (List.mem_append_left _ hp))
                 refine re_planM M510 [(0, false), (1, false), (2, false), (3, false), (4, false), (5, false), (7, false), (8, false), (9, false), (10, false), (11, false), (12, false), (13, false), (14, false), (16, false), (17, false), (18, false), (19, false), (20, false), (6, true), (22, true), (15, true), (21, false)] 23 rfl (by kernel_rfl) <| dk_q rfl rfl (fun w _H _hx => ev_move s0) <| dk_q rfl rfl (fun w _H _hx => ev_move s5) <| dk_q rfl rfl (fun w _H _hx => ev_i64_add (b := 3) rfl rfl oM oM) <| dk_q rfl rfl (fun w _H _hx => ev_move s7) <| dk_q rfl rfl (fun w _H _hx => ev_slice_rd (i := (a : Int) + 3) (j := ((a + 3 + kN (b.drop a) : Nat) : Int)) (Rd.ofRest hr52 _hx) uT23 ti5 rfl (optI_some (k := .i64) (i := (a : Int) + 3) rfl) (optI_some (k := .i64) (i := ((a + 3 + kN (b.drop a) : Nat) : Int)) rfl) oM sL sL) ?_
                 refine dk_q rfl rfl (fun w _H _hx => ev_b2s (l := (b.drop ((a : Int) + 3 : Int).toNat).take ((((a + 3 + kN (b.drop a) : Nat) : Int) : Int).toNat - ((a : Int) + 3 : Int).toNat)) (Rd.cast (l' := (b.drop ((a : Int) + 3 : Int).toNat).take ((((a + 3 + kN (b.drop a) : Nat) : Int) : Int).toNat - ((a : Int) + 3 : Int).toNat)) (Rd.sub (Rd.ofRest hr52 _hx) oM sL sL) rfl) uT23 uT5 uT9 rfl) <| dk_q rfl rfl (fun w _H _hx => ev_move s0) <| dk_q rfl rfl (fun w _H _hx => ev_move s7) <| dk_q rfl rfl (fun w _H _hx => ev_i64_add (b := 4) rfl rfl oM oM) <| dk_q rfl rfl (fun w _H _hx => ev_move s7) <| dk_q rfl rfl (fun w _H _hx => ev_i64_add (b := 4) rfl rfl oM oM) ?_
                 refine dk_q rfl rfl (fun w _H _hx => ev_move s8) <| dk_q rfl rfl (fun w _H _hx => ev_i64_add rfl rfl oM oM) <| dk_q rfl rfl (fun w _H _hx => ev_slice_rd (i := ((a + 3 + kN (b.drop a) : Nat) : Int) + 4) (j := (((a + 3 + kN (b.drop a) : Nat) : Int) + 4) + (vN_ (b.drop a) : Int)) (Rd.ofRest hr52 _hx) uT23 ti5 rfl (optI_some (k := .i64) (i := ((a + 3 + kN (b.drop a) : Nat) : Int) + 4) rfl) (optI_some (k := .i64) (i := (((a + 3 + kN (b.drop a) : Nat) : Int) + 4) + (vN_ (b.drop a) : Int)) rfl) oM sL sL) <| dk_q rfl rfl (fun w _H _hx => ev_move s0) <| dk_q rfl rfl (fun w _H _hx => ev_move s5) <| dk_q rfl rfl (fun w _H _hx => ev_indexAddr_rdv (Rd.ofRest hr52 _hx) uT23 ti5 rfl rfl oM sL) ?_
                 refine dk_q (v := (u8 (b.getD a 0))) rfl rfl (fun w _H _hx => ev_load_rdD (l := b) (i := (a : Int)) (dflt := 0) (Rd.ofRest hr52 _hx) uT5 rfl oM sL rfl) <| dk_q rfl rfl (fun w _H _hx => ev_u8_eql (b := 1#8) rfl rfl) ?_
                 refine dk_c rfl rfl (fun w54 _ew54 => ?_)
                 have hm54 := M510.ext _ew54
                 refine OpR.mono (or_buildSlice_cl u8 [] u8_one hm54 uT23 ti5 rfl (by simp [pairs]) rfl) ?_
                 rintro _ w55 ⟨b92_1, rfl, _ew55, hm55⟩
                 refine ⟨⟨_, hm55⟩, ?_⟩
                 refine dk_c rfl rfl (fun w56 _ew56 => ?_)
                 have hm56 := hm55.ext _ew56
                 refine OpR.mono (or_allocX hm56 ti79) ?_
                 rintro _ w57 ⟨b9_1, rfl, _ew57, hm57⟩
                 refine ⟨⟨_, hm57⟩, ?_⟩
                 refine dk_c rfl rfl (fun w58 _ew58 => ?_)
                 have hm58 := hm57.ext _ew58
                 refine OpR.mono (or_append (f := u8) (Hs := [(b92_1, .cells (cl u8 ([])) 5 (0, 0))]) (H := [(b9_1, .cells #[(Value.string ByteArray.empty), (Value.slice none 0 0), (bl false)] 79 (0, 0))]) (Mem.pick [_] [_] _ hm58) (Grow.of u8 5 b92_1 ([])) rfl rfl (Rd.cast (l' := (b.drop (((a + 3 + kN (b.drop a) : Nat) : Int) + 4 : Int).toNat).take (((((a + 3 + kN (b.drop a) : Nat) : Int) + 4) + (vN_ (b.drop a) : Int) : Int).toNat - (((a + 3 + kN (b.drop a) : Nat) : Int) + 4 : Int).toNat)) (Rd.sub (Rd.ofRest hr52 hm58) oM sL sL) rfl) uT23 uT23 ti5 rfl u8_one sL sL) ?_
                 rintro sv59 w59 ⟨Hs59, hm59, g59⟩
                 replace g59 : Grow u8 5 sv59 ((b.drop (((a + 3 + kN (b.drop a) : Nat) : Int) + 4 : Int).toNat).take (((((a + 3 + kN (b.drop a) : Nat) : Int) + 4) + (vN_ (b.drop a) : Int) : Int).toNat - (((a + 3 + kN (b.drop a) : Nat) : Int) + 4 : Int).toNat)) Hs59 := g59
                 refine ⟨⟨_, hm59⟩, ?_⟩
                 refine dk_q rfl rfl (fun w _H _hx => ev_build_pt (c := #[(Value.string (strOf ((b.drop ((a : Int) + 3 : Int).toNat).take ((((a + 3 + kN (b.drop a) : Nat) : Int) : Int).toNat - ((a : Int) + 3 : Int).toNat)))), sv59, (bl ((b.getD a 0) == 1#8))]) (pl := [(0, 1), (1, 1), (2, 1)]) ti79 uT79 (by kernel_rfl) (pm_cons (i := 0) (v := (Value.string (strOf ((b.drop ((a : Int) + 3 : Int).toNat).take ((((a + 3 + kN (b.drop a) : Nat) : Int) : Int).toNat - ((a : Int) + 3 : Int).toNat))))) (cs := #[(Value.string (strOf ((b.drop ((a : Int) + 3 : Int).toNat).take ((((a + 3 + kN (b.drop a) : Nat) : Int) : Int).toNat - ((a : Int) + 3 : Int).toNat))))]) rfl rfl (pm_cons (i := 1) (v := sv59) (cs := #[sv59]) rfl (one_cells g59.one) (pm_cons (i := 2) (v := (bl ((b.getD a 0) == 1#8))) (cs := #[(bl ((b.getD a 0) == 1#8))]) rfl rfl pm_nil))) (by kernel_rfl)) ?_
                 refine dw_nil (fun w60 _ew60 => ?_)
                 have hm60 := hm59.ext _ew60
                 have hX61 := hm60
                 rw [hRM51] at hX61
                 have hm62 : Mem w60 (restOf w0) (Hs59 ++ ([(b9_1, .cells #[(Value.string ByteArray.empty), (Value.slice none 0 0), (bl false)] 79 (0, 0))] ++ (Ho ++ (He ++ ([]))))) := (by
                   have hT := Mem.back hFM51 hX61
                   try simp only [List.append_assoc, List.cons_append, List.nil_append, List.append_nil] at hT ⊢
                   exact hT)
                 refine rw_n (or_storeW (cs := #[(Value.string (strOf ((b.drop ((a : Int) + 3 : Int).toNat).take ((((a + 3 + kN (b.drop a) : Nat) : Int) : Int).toNat - ((a : Int) + 3 : Int).toNat)))), sv59, (bl ((b.getD a 0) == 1#8))]) ti79 rfl rfl (by kernel_rfl) (one_arr (one_cons rfl (one_cons g59.one (one_cons rfl one_nil)))) ((Mem.pick Hs59 [_] _ hm62)).h0 (by kernel_rfl) rfl) ?_
                 rintro _ w63 uq63
                 have hm63 : Mem w63 (restOf w0) ([(b9_1, .cells #[(Value.string (strOf ((b.drop ((a : Int) + 3 : Int).toNat).take ((((a + 3 + kN (b.drop a) : Nat) : Int) : Int).toNat - ((a : Int) + 3 : Int).toNat)))), sv59, (bl ((b.getD a 0) == 1#8))] 79 (0, 0))] ++ (Hs59 ++ (Ho ++ (He ++ ([]))))) := Mem.upd0 (Mem.pick Hs59 [_] _ hm62) uq63
                 refine rN ?_
                 refine CW.abs (fun g => g 0 = vb ∧ g 4 = vo ∧ g 5 = (i64 (a : Int)) ∧ g 6 = (i64 (kN (b.drop a) : Int)) ∧ g 7 = (i64 ((a + 3 + kN (b.drop a) : Nat) : Int)) ∧ g 8 = (i64 (vN_ (b.drop a) : Int)) ∧ g 9 = (ptr b9_1 0) ∧ g 14 = (bl (decide ((a : Int) < (b.length : Int)))) ∧ g 26 = (bl (decide ((1#8).toNat < (b.getD a 0).toNat))) ∧ g 49 = (bl (decide ((b.length : Int) < (((a + 3 + kN (b.drop a) : Nat) : Int) + 4)))) ∧ g 85 = (bl (decide ((((b.length : Int) - ((a + 3 + kN (b.drop a) : Nat) : Int)) - 4) < (vN_ (b.drop a) : Int)))) ∧ True) ⟨s0, s4, s5, s6, s7, s8, rfl, s14, s26, s49, rfl, trivial⟩ ?_
                 rintro fr64 ⟨s0, s4, s5, s6, s7, s8, s9, s14, s26, s49, s85, _⟩
                 refine cw_seq (cw_seq ?_)
                 have hKe : (b.drop ((a : Int) + 3 : Int).toNat).take ((((a + 3 + kN (b.drop a) : Nat) : Int) : Int).toNat - ((a : Int) + 3 : Int).toNat) = (b.drop (a + 3)).take (kN (b.drop a)) := sub_at oM oM
                 have hVe : (b.drop (((a + 3 + kN (b.drop a) : Nat) : Int) + 4 : Int).toNat).take (((((a + 3 + kN (b.drop a) : Nat) : Int) + 4) + (vN_ (b.drop a) : Int) : Int).toNat - (((a + 3 + kN (b.drop a) : Nat) : Int) + 4 : Int).toNat) = (b.drop (a + (7 + kN (b.drop a)))).take (vN_ (b.drop a)) := sub_at oM oM
                 have hks : (strOf ((b.drop ((a : Int) + 3 : Int).toNat).take ((((a + 3 + kN (b.drop a) : Nat) : Int) : Int).toNat - ((a : Int) + 3 : Int).toNat))).size = kN (b.drop a) := by rw [strOf_size, hKe, List.length_take, List.length_drop]; omega
                 have hvl : ((b.drop (((a + 3 + kN (b.drop a) : Nat) : Int) + 4 : Int).toNat).take (((((a + 3 + kN (b.drop a) : Nat) : Int) + 4) + (vN_ (b.drop a) : Int) : Int).toNat - (((a + 3 + kN (b.drop a) : Nat) : Int) + 4 : Int).toNat)).length = vN_ (b.drop a) := by rw [hVe, List.length_take, List.length_drop]; omega
                 refine cw_region <| rw_q (v := (Value.agg #[(Value.string (strOf ((b.drop ((a : Int) + 3 : Int).toNat).take ((((a + 3 + kN (b.drop a) : Nat) : Int) : Int).toNat - ((a : Int) + 3 : Int).toNat)))), sv59, (bl ((b.getD a 0) == 1#8))])) rfl (ev_loadW uT79 rfl ti79 s9 hm63.h0 (by kernel_rfl)) <| rw_c rfl (opR_call Try.func60 bd60 nm60 (args1 rfl) (c_rright16 (strOf ((b.drop ((a : Int) + 3 : Int).toNat).take ((((a + 3 + kN (b.drop a) : Nat) : Int) : Int).toNat - ((a : Int) + 3 : Int).toNat))) sv59 ((b.drop (((a + 3 + kN (b.drop a) : Nat) : Int) + 4 : Int).toNat).take (((((a + 3 + kN (b.drop a) : Nat) : Int) + 4) + (vN_ (b.drop a) : Int) : Int).toNat - (((a + 3 + kN (b.drop a) : Nat) : Int) + 4 : Int).toNat)) ((b.getD a 0) == 1#8) _ (g59.rd (Mem.pick [_] Hs59 _ hm63)) sL sL)) ?_
                 rintro _ w65 ⟨rfl, _ew65⟩
                 have hm65 := hm63.ext _ew65
                 refine rw_q rfl (ev_not rfl) <| rN ?_
                 refine cw_cond rfl (fun hc67 => ?_) (fun hc67 => ?_)
                 · -- true
                   have hc67n : (rightB (strOf ((b.drop ((a : Int) + 3 : Int).toNat).take ((((a + 3 + kN (b.drop a) : Nat) : Int) : Int).toNat - ((a : Int) + 3 : Int).toNat))).size ((b.drop (((a + 3 + kN (b.drop a) : Nat) : Int) + 4 : Int).toNat).take (((((a + 3 + kN (b.drop a) : Nat) : Int) + 4) + (vN_ (b.drop a) : Int) : Int).toNat - (((a + 3 + kN (b.drop a) : Nat) : Int) + 4 : Int).toNat)).length ((b.getD a 0) == 1#8)) = false := by simpa using hc67
                   refine sR <| rw_q rfl (ev_assign (v := (Value.slice none 0 0)) rfl) <| rw_q rfl (ev_assign (v := (i64 3)) rfl) ?_
                   refine rN (cw_ret ?_)
                   refine kThen_ret (kBlk_ret (kThen_ret (kBlk_ret ?_)))
                   refine fnPost_ret [(Value.slice none 0 0), (i64 3)] ⟨rfl, rfl, trivial⟩ ?_
                   have hm68 := Mem.drop ([(b9_1, .cells #[(Value.string (strOf ((b.drop ((a : Int) + 3 : Int).toNat).take ((((a + 3 + kN (b.drop a) : Nat) : Int) : Int).toNat - ((a : Int) + 3 : Int).toNat)))), sv59, (bl ((b.getD a 0) == 1#8))] 79 (0, 0))]) _ hm65
                   have hm69 := Mem.drop Hs59 _ hm68
                   have hm70 := Mem.drop Ho _ hm69
                   have hm71 := Mem.drop He _ hm70
                   have h11 : (1#8).toNat = 1 := rfl
                   have hgt := of_decide_eq_false hc9
                   rw [Int.toNat_natCast] at hgt
                   have hrb : rightB (kN (b.drop a)) (vN_ (b.drop a)) (b.getD a 0 == 1#8) = false := by have h := hc67; rw [hks, hvl] at h; simpa using h
                   have hno := dec_none (dec_no hl0 (one_no (fun hq => by obtain ⟨q1, q2, q3, q4, q5⟩ := hq; (rw [hrb] at q5; cases q5))) hD)
                   rw [hno.1, hno.2]
                   exact ⟨_, [], [], [], rfl, rfl, GrowK.none encP 3 79, ElP.nil, by simpa using hm71⟩
                 · -- false
                   have hc67n : (rightB (strOf ((b.drop ((a : Int) + 3 : Int).toNat).take ((((a + 3 + kN (b.drop a) : Nat) : Int) : Int).toNat - ((a : Int) + 3 : Int).toNat))).size ((b.drop (((a + 3 + kN (b.drop a) : Nat) : Int) + 4 : Int).toNat).take (((((a + 3 + kN (b.drop a) : Nat) : Int) + 4) + (vN_ (b.drop a) : Int) : Int).toNat - (((a + 3 + kN (b.drop a) : Nat) : Int) + 4 : Int).toNat)).length ((b.getD a 0) == 1#8)) = true := by simpa using hc67
                   refine cw_skip (kThen_normal (sR ?_))
                   refine rM rfl s4 <| rw_q (v := (Value.agg #[(Value.string (strOf ((b.drop ((a : Int) + 3 : Int).toNat).take ((((a + 3 + kN (b.drop a) : Nat) : Int) : Int).toNat - ((a : Int) + 3 : Int).toNat)))), sv59, (bl ((b.getD a 0) == 1#8))])) rfl (ev_loadW uT79 rfl ti79 s9 hm65.h0 (by kernel_rfl)) <| rw_c rfl (or_buildSlice_k1 (cs := #[(Value.string (strOf ((b.drop ((a : Int) + 3 : Int).toNat).take ((((a + 3 + kN (b.drop a) : Nat) : Int) : Int).toNat - ((a : Int) + 3 : Int).toNat)))), sv59, (bl ((b.getD a 0) == 1#8))]) hm65 uT55 ti79 rfl rfl rfl rfl) ?_
                   rintro _ w72 ⟨b113_1, rfl, _ew72, hm72⟩
                   have hm72 : Mem w72 (restOf w0) ([(b113_1, .cells #[(Value.string (strOf ((b.drop ((a : Int) + 3 : Int).toNat).take ((((a + 3 + kN (b.drop a) : Nat) : Int) : Int).toNat - ((a : Int) + 3 : Int).toNat)))), sv59, (bl ((b.getD a 0) == 1#8))] 79 (0, 0)), (b9_1, .cells #[(Value.string (strOf ((b.drop ((a : Int) + 3 : Int).toNat).take ((((a + 3 + kN (b.drop a) : Nat) : Int) : Int).toNat - ((a : Int) + 3 : Int).toNat)))), sv59, (bl ((b.getD a 0) == 1#8))] 79 (0, 0))] ++ (Hs59 ++ (Ho ++ (He ++ ([]))))) := hm72
                   refine rw_c rfl (or_appendK (enc := encP) (k := 3) (Hs := Ho) (H := [(b113_1, .cells #[(Value.string (strOf ((b.drop ((a : Int) + 3 : Int).toNat).take ((((a + 3 + kN (b.drop a) : Nat) : Int) : Int).toNat - ((a : Int) + 3 : Int).toNat)))), sv59, (bl ((b.getD a 0) == 1#8))] 79 (0, 0)), (b9_1, .cells #[(Value.string (strOf ((b.drop ((a : Int) + 3 : Int).toNat).take ((((a + 3 + kN (b.drop a) : Nat) : Int) : Int).toNat - ((a : Int) + 3 : Int).toNat)))), sv59, (bl ((b.getD a 0) == 1#8))] 79 (0, 0))] ++ (Hs59 ++ (He ++ ([])))) (Mem.pick2 [_, _] Hs59 Ho _ hm72) go rfl rfl (RdK.ofOne (enc := encP) (k := 3) (a := (PairT.mk (strOf ((b.drop ((a : Int) + 3 : Int).toNat).take ((((a + 3 + kN (b.drop a) : Nat) : Int) : Int).toNat - ((a : Int) + 3 : Int).toNat))) (toSl sv59 ((b.drop (((a + 3 + kN (b.drop a) : Nat) : Int) + 4 : Int).toNat).take (((((a + 3 + kN (b.drop a) : Nat) : Int) + 4) + (vN_ (b.drop a) : Int) : Int).toNat - (((a + 3 + kN (b.drop a) : Nat) : Int) + 4 : Int).toNat))) ((b.getD a 0) == 1#8))) hm72.h0 (by show _ = #[_, slv (toSl sv59 ((b.drop (((a + 3 + kN (b.drop a) : Nat) : Int) + 4 : Int).toNat).take (((((a + 3 + kN (b.drop a) : Nat) : Int) + 4) + (vN_ (b.drop a) : Int) : Int).toNat - (((a + 3 + kN (b.drop a) : Nat) : Int) + 4 : Int).toNat))), _]; rw [Grow.toSl ((b.drop (((a + 3 + kN (b.drop a) : Nat) : Int) + 4 : Int).toNat).take (((((a + 3 + kN (b.drop a) : Nat) : Int) + 4) + (vN_ (b.drop a) : Int) : Int).toNat - (((a + 3 + kN (b.drop a) : Nat) : Int) + 4 : Int).toNat)) g59]) rfl) uT55 uT55 ti79 rfl rfl (fun a _ => encP_one a) sL sL) ?_
                   rintro sv73 w73 ⟨Hs73, hm73, g73⟩
                   replace g73 : GrowK encP 3 79 sv73 (ps ++ ([(PairT.mk (strOf ((b.drop ((a : Int) + 3 : Int).toNat).take ((((a + 3 + kN (b.drop a) : Nat) : Int) : Int).toNat - ((a : Int) + 3 : Int).toNat))) (toSl sv59 ((b.drop (((a + 3 + kN (b.drop a) : Nat) : Int) + 4 : Int).toNat).take (((((a + 3 + kN (b.drop a) : Nat) : Int) + 4) + (vN_ (b.drop a) : Int) : Int).toNat - (((a + 3 + kN (b.drop a) : Nat) : Int) + 4 : Int).toNat))) ((b.getD a 0) == 1#8))])) Hs73 := g73
                   refine rA rfl (v := sv73) rfl ?_
                   refine rN (cw_region ?_)
                   refine rM rfl s7 <| rw_q rfl (ev_i64_add (b := 4) rfl rfl oM oM) <| rM rfl s8 <| rw_q rfl (ev_i64_add rfl rfl oM oM) <| rw_q rfl (ev_assign (v := (i64 ((((a + 3 + kN (b.drop a) : Nat) : Int) + 4) + (vN_ (b.drop a) : Int)))) rfl) ?_
                   refine rw_nil (kBlk_normal (kThen_normal ?_))
                   have hrb : rightB (kN (b.drop a)) (vN_ (b.drop a)) (b.getD a 0 == 1#8) = true := by have h := hc67; rw [hks, hvl] at h; simpa using h
                   have h11 : (1#8).toNat = 1 := rfl
                   have hgt := of_decide_eq_false hc9
                   rw [Int.toNat_natCast] at hgt
                   have hok : oneOk (b.drop a) = true := ok_one oM oM oM hrb
                   have hdm := dec_more hl0 hf hok hD
                   rw [oneR_at rfl] at hdm
                   have hm74 := Mem.drop ([(b113_1, .cells #[(Value.string (strOf ((b.drop ((a : Int) + 3 : Int).toNat).take ((((a + 3 + kN (b.drop a) : Nat) : Int) : Int).toNat - ((a : Int) + 3 : Int).toNat)))), sv59, (bl ((b.getD a 0) == 1#8))] 79 (0, 0))]) _ (Mem.pick Hs73 [_] _ hm73)
                   have hm75 := Mem.drop ([(b9_1, .cells #[(Value.string (strOf ((b.drop ((a : Int) + 3 : Int).toNat).take ((((a + 3 + kN (b.drop a) : Nat) : Int) : Int).toNat - ((a : Int) + 3 : Int).toNat)))), sv59, (bl ((b.getD a 0) == 1#8))] 79 (0, 0))]) _ (Mem.pick Hs73 [_] _ hm74)
                   exact ⟨⟨(f - 1), (vN_ (b.drop a) + (a + 3 + kN (b.drop a)) + 4), sv73, (ps ++ ([(PairT.mk (strOf ((b.drop ((a : Int) + 3 : Int).toNat).take ((((a + 3 + kN (b.drop a) : Nat) : Int) : Int).toNat - ((a : Int) + 3 : Int).toNat))) (toSl sv59 ((b.drop (((a + 3 + kN (b.drop a) : Nat) : Int) + 4 : Int).toNat).take (((((a + 3 + kN (b.drop a) : Nat) : Int) + 4) + (vN_ (b.drop a) : Int) : Int).toNat - (((a + 3 + kN (b.drop a) : Nat) : Int) + 4 : Int).toNat))) ((b.getD a 0) == 1#8))])), Hs73, (Hs59 ++ He), oM, hdm.1, (by rw [List.map_append, List.map_cons, List.map_nil, one_at hKe hVe]; exact hdm.2), (by rw [List.length_append, List.length_singleton]; omega), g73, (ElP.snoc hel g59), s0, rfl, (Eq.trans rfl (congrArg i64 oM)), (by
                     have hT := hm75
                     try simp only [List.append_assoc, List.cons_append, List.nil_append, List.append_nil] at hT ⊢
                     exact hT)⟩, meas (rfl) z5 oM oM⟩
             · -- 22 ahead of 6
               have hFM76 : Mem w20 (restOf w0) ([] ++ (Ho ++ (He ++ ([])))) := hm20
               obtain ⟨RM76, hRM76⟩ : ∃ R2, R2 = Rest.add (restOf w0) (Ho ++ (He ++ ([]))) := ⟨_, rfl⟩
               have M760 : Mem w20 RM76 [] := by rw [hRM76]; exact Mem.give hFM76
               have hr77 : Rd RM76.blk u8 vb b := by rw [hRM76]; exact Rd.mono hb fun b o e => Mem.addRest hFM76 e
               have hg78 : RdK RM76.blk encP 3 vo ps := go.rdIn (fun p hp => by rw [hRM76]; exact Mem.addOwn hFM76 (List.mem_append_left _ hp))
               refine re_planM M760 [(0, false), (1, false), (2, false), (3, false), (4, false), (5, false), (7, false), (8, false), (9, false), (10, false), (11, false), (12, false), (13, false), (14, false), (16, false), (17, false), (18, false), (19, false), (20, false), (22, true), (6, true), (15, true), (21, false)] 23 rfl (by kernel_rfl) <| dk_q rfl rfl (fun w _H _hx => ev_move s0) <| dk_q rfl rfl (fun w _H _hx => ev_move s5) <| dk_q rfl rfl (fun w _H _hx => ev_i64_add (b := 3) rfl rfl oM oM) <| dk_q rfl rfl (fun w _H _hx => ev_move s7) <| dk_q rfl rfl (fun w _H _hx => ev_slice_rd (i := (a : Int) + 3) (j := ((a + 3 + kN (b.drop a) : Nat) : Int)) (Rd.ofRest hr77 _hx) uT23 ti5 rfl (optI_some (k := .i64) (i := (a : Int) + 3) rfl) (optI_some (k := .i64) (i := ((a + 3 + kN (b.drop a) : Nat) : Int)) rfl) oM sL sL) ?_
               refine dk_q rfl rfl (fun w _H _hx => ev_b2s (l := (b.drop ((a : Int) + 3 : Int).toNat).take ((((a + 3 + kN (b.drop a) : Nat) : Int) : Int).toNat - ((a : Int) + 3 : Int).toNat)) (Rd.cast (l' := (b.drop ((a : Int) + 3 : Int).toNat).take ((((a + 3 + kN (b.drop a) : Nat) : Int) : Int).toNat - ((a : Int) + 3 : Int).toNat)) (Rd.sub (Rd.ofRest hr77 _hx) oM sL sL) rfl) uT23 uT5 uT9 rfl) <| dk_q rfl rfl (fun w _H _hx => ev_move s0) <| dk_q rfl rfl (fun w _H _hx => ev_move s7) <| dk_q rfl rfl (fun w _H _hx => ev_i64_add (b := 4) rfl rfl oM oM) <| dk_q rfl rfl (fun w _H _hx => ev_move s7) <| dk_q rfl rfl (fun w _H _hx => ev_i64_add (b := 4) rfl rfl oM oM) ?_
               refine dk_q rfl rfl (fun w _H _hx => ev_move s8) <| dk_q rfl rfl (fun w _H _hx => ev_i64_add rfl rfl oM oM) <| dk_q rfl rfl (fun w _H _hx => ev_slice_rd (i := ((a + 3 + kN (b.drop a) : Nat) : Int) + 4) (j := (((a + 3 + kN (b.drop a) : Nat) : Int) + 4) + (vN_ (b.drop a) : Int)) (Rd.ofRest hr77 _hx) uT23 ti5 rfl (optI_some (k := .i64) (i := ((a + 3 + kN (b.drop a) : Nat) : Int) + 4) rfl) (optI_some (k := .i64) (i := (((a + 3 + kN (b.drop a) : Nat) : Int) + 4) + (vN_ (b.drop a) : Int)) rfl) oM sL sL) <| dk_q rfl rfl (fun w _H _hx => ev_move s0) <| dk_q rfl rfl (fun w _H _hx => ev_move s5) <| dk_q rfl rfl (fun w _H _hx => ev_indexAddr_rdv (Rd.ofRest hr77 _hx) uT23 ti5 rfl rfl oM sL) ?_
               refine dk_q (v := (u8 (b.getD a 0))) rfl rfl (fun w _H _hx => ev_load_rdD (l := b) (i := (a : Int)) (dflt := 0) (Rd.ofRest hr77 _hx) uT5 rfl oM sL rfl) <| dk_q rfl rfl (fun w _H _hx => ev_u8_eql (b := 1#8) rfl rfl) ?_
               refine dk_c rfl rfl (fun w79 _ew79 => ?_)
               have hm79 := M760.ext _ew79
               refine OpR.mono (or_allocX hm79 ti79) ?_
               rintro _ w80 ⟨b9_2, rfl, _ew80, hm80⟩
               refine ⟨⟨_, hm80⟩, ?_⟩
               refine dk_c rfl rfl (fun w81 _ew81 => ?_)
               have hm81 := hm80.ext _ew81
               refine OpR.mono (or_buildSlice_cl u8 [] u8_one hm81 uT23 ti5 rfl (by simp [pairs]) rfl) ?_
               rintro _ w82 ⟨b92_2, rfl, _ew82, hm82⟩
               refine ⟨⟨_, hm82⟩, ?_⟩
               refine dk_c rfl rfl (fun w83 _ew83 => ?_)
               have hm83 := hm82.ext _ew83
               refine OpR.mono (or_append (f := u8) (Hs := [(b92_2, .cells (cl u8 ([])) 5 (0, 0))]) (H := [(b9_2, .cells #[(Value.string ByteArray.empty), (Value.slice none 0 0), (bl false)] 79 (0, 0))]) hm83 (Grow.of u8 5 b92_2 ([])) rfl rfl (Rd.cast (l' := (b.drop (((a + 3 + kN (b.drop a) : Nat) : Int) + 4 : Int).toNat).take (((((a + 3 + kN (b.drop a) : Nat) : Int) + 4) + (vN_ (b.drop a) : Int) : Int).toNat - (((a + 3 + kN (b.drop a) : Nat) : Int) + 4 : Int).toNat)) (Rd.sub (Rd.ofRest hr77 hm83) oM sL sL) rfl) uT23 uT23 ti5 rfl u8_one sL sL) ?_
               rintro sv84 w84 ⟨Hs84, hm84, g84⟩
               replace g84 : Grow u8 5 sv84 ((b.drop (((a + 3 + kN (b.drop a) : Nat) : Int) + 4 : Int).toNat).take (((((a + 3 + kN (b.drop a) : Nat) : Int) + 4) + (vN_ (b.drop a) : Int) : Int).toNat - (((a + 3 + kN (b.drop a) : Nat) : Int) + 4 : Int).toNat)) Hs84 := g84
               refine ⟨⟨_, hm84⟩, ?_⟩
               refine dk_q rfl rfl (fun w _H _hx => ev_build_pt (c := #[(Value.string (strOf ((b.drop ((a : Int) + 3 : Int).toNat).take ((((a + 3 + kN (b.drop a) : Nat) : Int) : Int).toNat - ((a : Int) + 3 : Int).toNat)))), sv84, (bl ((b.getD a 0) == 1#8))]) (pl := [(0, 1), (1, 1), (2, 1)]) ti79 uT79 (by kernel_rfl) (pm_cons (i := 0) (v := (Value.string (strOf ((b.drop ((a : Int) + 3 : Int).toNat).take ((((a + 3 + kN (b.drop a) : Nat) : Int) : Int).toNat - ((a : Int) + 3 : Int).toNat))))) (cs := #[(Value.string (strOf ((b.drop ((a : Int) + 3 : Int).toNat).take ((((a + 3 + kN (b.drop a) : Nat) : Int) : Int).toNat - ((a : Int) + 3 : Int).toNat))))]) rfl rfl (pm_cons (i := 1) (v := sv84) (cs := #[sv84]) rfl (one_cells g84.one) (pm_cons (i := 2) (v := (bl ((b.getD a 0) == 1#8))) (cs := #[(bl ((b.getD a 0) == 1#8))]) rfl rfl pm_nil))) (by kernel_rfl)) ?_
               refine dw_nil (fun w85 _ew85 => ?_)
               have hm85 := hm84.ext _ew85
               have hX86 := hm85
               rw [hRM76] at hX86
               have hm87 : Mem w85 (restOf w0) (Hs84 ++ ([(b9_2, .cells #[(Value.string ByteArray.empty), (Value.slice none 0 0), (bl false)] 79 (0, 0))] ++ (Ho ++ (He ++ ([]))))) := (by
                 have hT := Mem.back hFM76 hX86
                 try simp only [List.append_assoc, List.cons_append, List.nil_append, List.append_nil] at hT ⊢
                 exact hT)
               refine rw_n (or_storeW (cs := #[(Value.string (strOf ((b.drop ((a : Int) + 3 : Int).toNat).take ((((a + 3 + kN (b.drop a) : Nat) : Int) : Int).toNat - ((a : Int) + 3 : Int).toNat)))), sv84, (bl ((b.getD a 0) == 1#8))]) ti79 rfl rfl (by kernel_rfl) (one_arr (one_cons rfl (one_cons g84.one (one_cons rfl one_nil)))) ((Mem.pick Hs84 [_] _ hm87)).h0 (by kernel_rfl) rfl) ?_
               rintro _ w88 uq88
               have hm88 : Mem w88 (restOf w0) ([(b9_2, .cells #[(Value.string (strOf ((b.drop ((a : Int) + 3 : Int).toNat).take ((((a + 3 + kN (b.drop a) : Nat) : Int) : Int).toNat - ((a : Int) + 3 : Int).toNat)))), sv84, (bl ((b.getD a 0) == 1#8))] 79 (0, 0))] ++ (Hs84 ++ (Ho ++ (He ++ ([]))))) := Mem.upd0 (Mem.pick Hs84 [_] _ hm87) uq88
               refine rN ?_
               refine CW.abs (fun g => g 0 = vb ∧ g 4 = vo ∧ g 5 = (i64 (a : Int)) ∧ g 6 = (i64 (kN (b.drop a) : Int)) ∧ g 7 = (i64 ((a + 3 + kN (b.drop a) : Nat) : Int)) ∧ g 8 = (i64 (vN_ (b.drop a) : Int)) ∧ g 9 = (ptr b9_2 0) ∧ g 14 = (bl (decide ((a : Int) < (b.length : Int)))) ∧ g 26 = (bl (decide ((1#8).toNat < (b.getD a 0).toNat))) ∧ g 49 = (bl (decide ((b.length : Int) < (((a + 3 + kN (b.drop a) : Nat) : Int) + 4)))) ∧ g 85 = (bl (decide ((((b.length : Int) - ((a + 3 + kN (b.drop a) : Nat) : Int)) - 4) < (vN_ (b.drop a) : Int)))) ∧ True) ⟨s0, s4, s5, s6, s7, s8, rfl, s14, s26, s49, rfl, trivial⟩ ?_
               rintro fr89 ⟨s0, s4, s5, s6, s7, s8, s9, s14, s26, s49, s85, _⟩
               refine cw_seq (cw_seq ?_)
               have hKe : (b.drop ((a : Int) + 3 : Int).toNat).take ((((a + 3 + kN (b.drop a) : Nat) : Int) : Int).toNat - ((a : Int) + 3 : Int).toNat) = (b.drop (a + 3)).take (kN (b.drop a)) := sub_at oM oM
               have hVe : (b.drop (((a + 3 + kN (b.drop a) : Nat) : Int) + 4 : Int).toNat).take (((((a + 3 + kN (b.drop a) : Nat) : Int) + 4) + (vN_ (b.drop a) : Int) : Int).toNat - (((a + 3 + kN (b.drop a) : Nat) : Int) + 4 : Int).toNat) = (b.drop (a + (7 + kN (b.drop a)))).take (vN_ (b.drop a)) := sub_at oM oM
               have hks : (strOf ((b.drop ((a : Int) + 3 : Int).toNat).take ((((a + 3 + kN (b.drop a) : Nat) : Int) : Int).toNat - ((a : Int) + 3 : Int).toNat))).size = kN (b.drop a) := by rw [strOf_size, hKe, List.length_take, List.length_drop]; omega
               have hvl : ((b.drop (((a + 3 + kN (b.drop a) : Nat) : Int) + 4 : Int).toNat).take (((((a + 3 + kN (b.drop a) : Nat) : Int) + 4) + (vN_ (b.drop a) : Int) : Int).toNat - (((a + 3 + kN (b.drop a) : Nat) : Int) + 4 : Int).toNat)).length = vN_ (b.drop a) := by rw [hVe, List.length_take, List.length_drop]; omega
               refine cw_region <| rw_q (v := (Value.agg #[(Value.string (strOf ((b.drop ((a : Int) + 3 : Int).toNat).take ((((a + 3 + kN (b.drop a) : Nat) : Int) : Int).toNat - ((a : Int) + 3 : Int).toNat)))), sv84, (bl ((b.getD a 0) == 1#8))])) rfl (ev_loadW uT79 rfl ti79 s9 hm88.h0 (by kernel_rfl)) <| rw_c rfl (opR_call Try.func60 bd60 nm60 (args1 rfl) (c_rright16 (strOf ((b.drop ((a : Int) + 3 : Int).toNat).take ((((a + 3 + kN (b.drop a) : Nat) : Int) : Int).toNat - ((a : Int) + 3 : Int).toNat))) sv84 ((b.drop (((a + 3 + kN (b.drop a) : Nat) : Int) + 4 : Int).toNat).take (((((a + 3 + kN (b.drop a) : Nat) : Int) + 4) + (vN_ (b.drop a) : Int) : Int).toNat - (((a + 3 + kN (b.drop a) : Nat) : Int) + 4 : Int).toNat)) ((b.getD a 0) == 1#8) _ (g84.rd (Mem.pick [_] Hs84 _ hm88)) sL sL)) ?_
               rintro _ w90 ⟨rfl, _ew90⟩
               have hm90 := hm88.ext _ew90
               refine rw_q rfl (ev_not rfl) <| rN ?_
               refine cw_cond rfl (fun hc92 => ?_) (fun hc92 => ?_)
               · -- true
                 have hc92n : (rightB (strOf ((b.drop ((a : Int) + 3 : Int).toNat).take ((((a + 3 + kN (b.drop a) : Nat) : Int) : Int).toNat - ((a : Int) + 3 : Int).toNat))).size ((b.drop (((a + 3 + kN (b.drop a) : Nat) : Int) + 4 : Int).toNat).take (((((a + 3 + kN (b.drop a) : Nat) : Int) + 4) + (vN_ (b.drop a) : Int) : Int).toNat - (((a + 3 + kN (b.drop a) : Nat) : Int) + 4 : Int).toNat)).length ((b.getD a 0) == 1#8)) = false := by simpa using hc92
                 refine sR <| rw_q rfl (ev_assign (v := (Value.slice none 0 0)) rfl) <| rw_q rfl (ev_assign (v := (i64 3)) rfl) ?_
                 refine rN (cw_ret ?_)
                 refine kThen_ret (kBlk_ret (kThen_ret (kBlk_ret ?_)))
                 refine fnPost_ret [(Value.slice none 0 0), (i64 3)] ⟨rfl, rfl, trivial⟩ ?_
                 have hm93 := Mem.drop ([(b9_2, .cells #[(Value.string (strOf ((b.drop ((a : Int) + 3 : Int).toNat).take ((((a + 3 + kN (b.drop a) : Nat) : Int) : Int).toNat - ((a : Int) + 3 : Int).toNat)))), sv84, (bl ((b.getD a 0) == 1#8))] 79 (0, 0))]) _ hm90
                 have hm94 := Mem.drop Hs84 _ hm93
                 have hm95 := Mem.drop Ho _ hm94
                 have hm96 := Mem.drop He _ hm95
                 have h11 : (1#8).toNat = 1 := rfl
                 have hgt := of_decide_eq_false hc9
                 rw [Int.toNat_natCast] at hgt
                 have hrb : rightB (kN (b.drop a)) (vN_ (b.drop a)) (b.getD a 0 == 1#8) = false := by have h := hc92; rw [hks, hvl] at h; simpa using h
                 have hno := dec_none (dec_no hl0 (one_no (fun hq => by obtain ⟨q1, q2, q3, q4, q5⟩ := hq; (rw [hrb] at q5; cases q5))) hD)
                 rw [hno.1, hno.2]
                 exact ⟨_, [], [], [], rfl, rfl, GrowK.none encP 3 79, ElP.nil, by simpa using hm96⟩
               · -- false
                 have hc92n : (rightB (strOf ((b.drop ((a : Int) + 3 : Int).toNat).take ((((a + 3 + kN (b.drop a) : Nat) : Int) : Int).toNat - ((a : Int) + 3 : Int).toNat))).size ((b.drop (((a + 3 + kN (b.drop a) : Nat) : Int) + 4 : Int).toNat).take (((((a + 3 + kN (b.drop a) : Nat) : Int) + 4) + (vN_ (b.drop a) : Int) : Int).toNat - (((a + 3 + kN (b.drop a) : Nat) : Int) + 4 : Int).toNat)).length ((b.getD a 0) == 1#8)) = true := by simpa using hc92
                 refine cw_skip (kThen_normal (sR ?_))
                 refine rM rfl s4 <| rw_q (v := (Value.agg #[(Value.string (strOf ((b.drop ((a : Int) + 3 : Int).toNat).take ((((a + 3 + kN (b.drop a) : Nat) : Int) : Int).toNat - ((a : Int) + 3 : Int).toNat)))), sv84, (bl ((b.getD a 0) == 1#8))])) rfl (ev_loadW uT79 rfl ti79 s9 hm90.h0 (by kernel_rfl)) <| rw_c rfl (or_buildSlice_k1 (cs := #[(Value.string (strOf ((b.drop ((a : Int) + 3 : Int).toNat).take ((((a + 3 + kN (b.drop a) : Nat) : Int) : Int).toNat - ((a : Int) + 3 : Int).toNat)))), sv84, (bl ((b.getD a 0) == 1#8))]) hm90 uT55 ti79 rfl rfl rfl rfl) ?_
                 rintro _ w97 ⟨b113_2, rfl, _ew97, hm97⟩
                 have hm97 : Mem w97 (restOf w0) ([(b113_2, .cells #[(Value.string (strOf ((b.drop ((a : Int) + 3 : Int).toNat).take ((((a + 3 + kN (b.drop a) : Nat) : Int) : Int).toNat - ((a : Int) + 3 : Int).toNat)))), sv84, (bl ((b.getD a 0) == 1#8))] 79 (0, 0)), (b9_2, .cells #[(Value.string (strOf ((b.drop ((a : Int) + 3 : Int).toNat).take ((((a + 3 + kN (b.drop a) : Nat) : Int) : Int).toNat - ((a : Int) + 3 : Int).toNat)))), sv84, (bl ((b.getD a 0) == 1#8))] 79 (0, 0))] ++ (Hs84 ++ (Ho ++ (He ++ ([]))))) := hm97
                 refine rw_c rfl (or_appendK (enc := encP) (k := 3) (Hs := Ho) (H := [(b113_2, .cells #[(Value.string (strOf ((b.drop ((a : Int) + 3 : Int).toNat).take ((((a + 3 + kN (b.drop a) : Nat) : Int) : Int).toNat - ((a : Int) + 3 : Int).toNat)))), sv84, (bl ((b.getD a 0) == 1#8))] 79 (0, 0)), (b9_2, .cells #[(Value.string (strOf ((b.drop ((a : Int) + 3 : Int).toNat).take ((((a + 3 + kN (b.drop a) : Nat) : Int) : Int).toNat - ((a : Int) + 3 : Int).toNat)))), sv84, (bl ((b.getD a 0) == 1#8))] 79 (0, 0))] ++ (Hs84 ++ (He ++ ([])))) (Mem.pick2 [_, _] Hs84 Ho _ hm97) go rfl rfl (RdK.ofOne (enc := encP) (k := 3) (a := (PairT.mk (strOf ((b.drop ((a : Int) + 3 : Int).toNat).take ((((a + 3 + kN (b.drop a) : Nat) : Int) : Int).toNat - ((a : Int) + 3 : Int).toNat))) (toSl sv84 ((b.drop (((a + 3 + kN (b.drop a) : Nat) : Int) + 4 : Int).toNat).take (((((a + 3 + kN (b.drop a) : Nat) : Int) + 4) + (vN_ (b.drop a) : Int) : Int).toNat - (((a + 3 + kN (b.drop a) : Nat) : Int) + 4 : Int).toNat))) ((b.getD a 0) == 1#8))) hm97.h0 (by show _ = #[_, slv (toSl sv84 ((b.drop (((a + 3 + kN (b.drop a) : Nat) : Int) + 4 : Int).toNat).take (((((a + 3 + kN (b.drop a) : Nat) : Int) + 4) + (vN_ (b.drop a) : Int) : Int).toNat - (((a + 3 + kN (b.drop a) : Nat) : Int) + 4 : Int).toNat))), _]; rw [Grow.toSl ((b.drop (((a + 3 + kN (b.drop a) : Nat) : Int) + 4 : Int).toNat).take (((((a + 3 + kN (b.drop a) : Nat) : Int) + 4) + (vN_ (b.drop a) : Int) : Int).toNat - (((a + 3 + kN (b.drop a) : Nat) : Int) + 4 : Int).toNat)) g84]) rfl) uT55 uT55 ti79 rfl rfl (fun a _ => encP_one a) sL sL) ?_
                 rintro sv98 w98 ⟨Hs98, hm98, g98⟩
                 replace g98 : GrowK encP 3 79 sv98 (ps ++ ([(PairT.mk (strOf ((b.drop ((a : Int) + 3 : Int).toNat).take ((((a + 3 + kN (b.drop a) : Nat) : Int) : Int).toNat - ((a : Int) + 3 : Int).toNat))) (toSl sv84 ((b.drop (((a + 3 + kN (b.drop a) : Nat) : Int) + 4 : Int).toNat).take (((((a + 3 + kN (b.drop a) : Nat) : Int) + 4) + (vN_ (b.drop a) : Int) : Int).toNat - (((a + 3 + kN (b.drop a) : Nat) : Int) + 4 : Int).toNat))) ((b.getD a 0) == 1#8))])) Hs98 := g98
                 refine rA rfl (v := sv98) rfl ?_
                 refine rN (cw_region ?_)
                 refine rM rfl s7 <| rw_q rfl (ev_i64_add (b := 4) rfl rfl oM oM) <| rM rfl s8 <| rw_q rfl (ev_i64_add rfl rfl oM oM) <| rw_q rfl (ev_assign (v := (i64 ((((a + 3 + kN (b.drop a) : Nat) : Int) + 4) + (vN_ (b.drop a) : Int)))) rfl) ?_
                 refine rw_nil (kBlk_normal (kThen_normal ?_))
                 have hrb : rightB (kN (b.drop a)) (vN_ (b.drop a)) (b.getD a 0 == 1#8) = true := by have h := hc92; rw [hks, hvl] at h; simpa using h
                 have h11 : (1#8).toNat = 1 := rfl
                 have hgt := of_decide_eq_false hc9
                 rw [Int.toNat_natCast] at hgt
                 have hok : oneOk (b.drop a) = true := ok_one oM oM oM hrb
                 have hdm := dec_more hl0 hf hok hD
                 rw [oneR_at rfl] at hdm
                 have hm99 := Mem.drop ([(b113_2, .cells #[(Value.string (strOf ((b.drop ((a : Int) + 3 : Int).toNat).take ((((a + 3 + kN (b.drop a) : Nat) : Int) : Int).toNat - ((a : Int) + 3 : Int).toNat)))), sv84, (bl ((b.getD a 0) == 1#8))] 79 (0, 0))]) _ (Mem.pick Hs98 [_] _ hm98)
                 have hm100 := Mem.drop ([(b9_2, .cells #[(Value.string (strOf ((b.drop ((a : Int) + 3 : Int).toNat).take ((((a + 3 + kN (b.drop a) : Nat) : Int) : Int).toNat - ((a : Int) + 3 : Int).toNat)))), sv84, (bl ((b.getD a 0) == 1#8))] 79 (0, 0))]) _ (Mem.pick Hs98 [_] _ hm99)
                 exact ⟨⟨(f - 1), (vN_ (b.drop a) + (a + 3 + kN (b.drop a)) + 4), sv98, (ps ++ ([(PairT.mk (strOf ((b.drop ((a : Int) + 3 : Int).toNat).take ((((a + 3 + kN (b.drop a) : Nat) : Int) : Int).toNat - ((a : Int) + 3 : Int).toNat))) (toSl sv84 ((b.drop (((a + 3 + kN (b.drop a) : Nat) : Int) + 4 : Int).toNat).take (((((a + 3 + kN (b.drop a) : Nat) : Int) + 4) + (vN_ (b.drop a) : Int) : Int).toNat - (((a + 3 + kN (b.drop a) : Nat) : Int) + 4 : Int).toNat))) ((b.getD a 0) == 1#8))])), Hs98, (Hs84 ++ He), oM, hdm.1, (by rw [List.map_append, List.map_cons, List.map_nil, one_at hKe hVe]; exact hdm.2), (by rw [List.length_append, List.length_singleton]; omega), g98, (ElP.snoc hel g84), s0, rfl, (Eq.trans rfl (congrArg i64 oM)), (by
                   have hT := hm100
                   try simp only [List.append_assoc, List.cons_append, List.nil_append, List.append_nil] at hT ⊢
                   exact hT)⟩, meas (rfl) z5 oM oM⟩
   · -- false
     have hc4p := of_decide_eq_false hc4
     refine cw_exit ?_
     refine kThen_exit (kThen_exit (kBlk_hit ?_))
     refine sR <| rM rfl s4 <| rA rfl (v := vo) rfl <| rw_q rfl (ev_assign (v := (i64 0)) rfl) ?_
     refine rN (cw_ret ?_)
     refine fnPost_ret [vo, (i64 0)] ⟨rfl, rfl, trivial⟩ ?_
     have hye := dec_yes (dec_end (by rw [List.length_drop]; omega) hD)
     rw [hye.1, hye.2]
     exact ⟨vo, ps, Ho, He, rfl, rfl, go, hel, by simpa using hm3⟩


end Go.Proofs.Ytfbnhoolkajebaa
