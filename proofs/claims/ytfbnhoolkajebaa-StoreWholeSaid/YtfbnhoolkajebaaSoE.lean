/- Contract: a commit. Conditions: none beyond those that each theorem states. -/
import Derived.Test.YtfbnhoolkajebaaSoD
namespace Go.Proofs.Ytfbnhoolkajebaa
set_option linter.unusedVariables false
set_option linter.unusedSimpArgs false
theorem encE_0 {L : List PairT} (h : (encE L != 0) = false) : allR L L.length = true := by
  cases ha : allR L L.length with
  | true => rfl
  | false => rw [(enc_no ha).2] at h; cases h
theorem encE_1 {L : List PairT} (h : (encE L != 0) = true) : allR L L.length = false := by
  cases ha : allR L L.length with
  | false => rfl
  | true => rw [(enc_yes ha).2] at h; cases h
theorem encS_len (S : List KV) : 7 * S.length ≤ (encS S).length := by
  unfold encS encL
  induction S with
  | nil => exact Nat.le_refl _
  | cons p S ih =>
    simp only [List.map_cons, List.flatten_cons, List.length_append, List.length_cons] at ih ⊢
    have := recP_len (g := (prOf p).gone) (k := (prOf p).key) (v := (prOf p).val.2)
    omega
theorem kv_small {ps : List PairT} {S : List KV} (h : ps.map kvOf = S) (hr : RightK S) : ∀ a ∈ ps, a.key.size ≤ 1048576 ∧ a.val.2.length ≤ 1048576 := fun a ha => by
  have := hr (kvOf a) (by rw [← h]; exact List.mem_map.2 ⟨a, ha, rfl⟩)
  have e1 : (kvOf a).1 = a.key := rfl
  have e2 : (kvOf a).2 = a.val.2 := rfl
  rw [e1, e2] at this; omega
/-! What a commit does to a disk. -/
/-- What a commit does to a disk: nothing; a record behind the others; a base in the other half. -/
def StepC (hh : Nat) (Ls : List (List (BitVec 8))) (fr : Nat) (g : BitVec 64) (L : List (List (BitVec 8))) (Ls2 : List (List (BitVec 8))) (fr2 : Nat) (g2 : BitVec 64) (L2 : List (List (BitVec 8))) : Prop :=
  (Ls2 = Ls ∧ fr2 = fr ∧ g2 = g ∧ L2 = L) ∨
  (fr2 = fr ∧ g2 = g ∧ (∃ b, L2 = L ++ [b]) ∧ ∀ p, p < Ls.length → ¬ (fr + roomB L ≤ p ∧ p < fr + roomB L2) → Ls2.getD p [] = Ls.getD p []) ∨
  (fr2 = hh - fr ∧ g2.toNat = g.toNat + 1 ∧ (∃ b, L2 = [b]) ∧ ∀ p, p < Ls.length → ¬ (fr2 ≤ p ∧ p < fr2 + roomB L2) → Ls2.getD p [] = Ls.getD p [])
section
variable {Ls Ls2 Ls3 : List (List (BitVec 8))} {fr fr2 hh : Nat} {g g2 : BitVec 64} {L L2 : List (List (BitVec 8))}
theorem getD_all {P : List (BitVec 8) → Prop} (h : ∀ x ∈ Ls, P x) {p : Nat} (hp : p < Ls.length) : P (Ls.getD p []) := h _ (getD_mem hp)
theorem append_keep {b : List (BitVec 8)} {h : Nat} {pI m : Int} (J : JI Ls fr h g L) (hfit : blocksN b.length ≤ h - roomB L) (hp : pI = ((fr + roomB L : Nat) : Int)) {p : Nat} (hn : ¬ (fr + roomB L ≤ p ∧ p < fr + roomB (L ++ [b]))) :
    (crashB Ls (writeK Ls [] pI g (BitVec.ofInt 64 m) b (blocksN b.length)) [1#8]).getD p [] = Ls.getD p [] := by
  have hr := J.room; have hh := J.half; have hln := J.len
  have hV := okV_write (ls := Ls) (ps := []) (pos := pI) (g := g) (r := BitVec.ofInt 64 m) (b := b) (G := g.toNat) okV_nil (Nat.le_refl _) J.g2 (blocksN b.length)
  have hFe := sync_eq (ls := Ls) J.all (fun w hw => (hV w hw).1)
  rw [room_snoc] at hn
  rw [hFe, sync_write (pos := fr + roomB L) hp _ oM, if_neg oM]; rfl
theorem restart_keep {b : List (BitVec 8)} {fI : Int} (J : JI Ls fr hh g L) (hg : g.toNat < 4294967294) (hb : blocksN b.length ≤ hh) (hf : fI = ((hh - fr : Nat) : Int)) {p : Nat} (hp : p < Ls.length) (hn : ¬ (hh - fr ≤ p ∧ p < hh - fr + roomB [b])) :
    (crashB (turnL Ls [] fI (newB Ls []) [b]) (turnP Ls [] fI (newB Ls []) [b]) [1#8]).getD p [] = Ls.getD p [] := by
  obtain ⟨h1, _⟩ := J.new oM
  have hh := J.half
  exact turn_rest J.okG h1 oM oM J.len (by simp) (by rw [room_1]; exact hb) hf hp hn
end
attribute [local irreducible] crashB crashK pushB readB inB errB cutN seenW
attribute [local irreducible] markB putB getB getK partB placeF blkOf rawB writeK blocksN
attribute [local irreducible] mostK newB roomB
attribute [local irreducible] recB recF recN genF badB lastP dataB gOf rOf pOf nOf loopH readH
attribute [local irreducible] okP layK turnL turnP oldB
attribute [local irreducible] openD
attribute [local irreducible] natB tkN tkOk kN vN_ oneOk oneR decF decP decV decE rightB encK recP num2 num4 allR goneB encV encE encL encS doO openK openS okS
attribute [local irreducible] doK commitF
set_option maxHeartbeats 2000000 in
theorem c_scommit (bs bj b : Nat) (Hm : List (Nat × Obj)) (fr hh : Nat) (ge : BitVec 64) (LW : List (List (BitVec 8))) (vr : Value) (rs : List SlT) (Hr : List (Nat × Obj)) (bd : Nat) (vl : Value) (Ls : List (List (BitVec 8))) (Hl : List (Nat × Obj)) (vp : Value) (lp : List PairT) (w0 : World) (R : Rest) (hm0 : Mem w0 R ([(bs, .cells #[(ptr bj 0), (Value.map (some b))] 118 (0, 0))] ++ (Hm ++ ([(bj, .cells #[(ptr bd 0), (i64 (fr : Int)), (i64 (hh : Int)), (u64 ge), vr, (i64 (roomB LW : Int))] 100 (0, 0))] ++ (Hr ++ ([(bd, .cells #[vl, (Value.slice none 0 0)] 94 (0, 0))] ++ (Hl ++ ([])))))))) (gm : MapG mN b (openS LW) Hm) (gr : GrowL mN 23 vr rs Hr) (gl : GrowK (encA u8) 64 83 vl Ls Hl) (hMr : rs.map (·.2) = LW) (hJ : JI Ls fr hh ge LW) (hge : ge.toNat ≤ 1000000) (hok : okS LW = true) (h4 : 4 ≤ Ls.length ∧ Ls.length ≤ 4000) (hrp : RdK R.blk encP 3 vp lp) (hqp : ∀ a ∈ lp, Rd R.blk u8 (slv a.val) a.val.2) (hlp : lp.length ≤ 1048576) (hep : ∀ a ∈ lp, a.key.size ≤ 1048576 ∧ a.val.2.length ≤ 1048576) (hkl : (encK lp lp.length).length ≤ 1000000) (hwl : (encS (doK (openS LW) lp lp.length)).length ≤ 4000000) : CallsR Try.prog 41 #[(ptr bs 0), vp] w0 (fun r w1 => ∃ b2 Hm2 fr2 ge2 vr2 rs2 Hr2 Ls2 Hl2, r = i64 (commitF hh LW lp).1 ∧ MapG mN b2 (openS (commitF hh LW lp).2) Hm2 ∧ rs2.map (·.2) = (commitF hh LW lp).2 ∧ GrowL mN 23 vr2 rs2 Hr2 ∧ GrowK (encA u8) 64 83 vl Ls2 Hl2 ∧ JI Ls2 fr2 hh ge2 (commitF hh LW lp).2 ∧ (ge.toNat ≤ ge2.toNat ∧ ge2.toNat ≤ ge.toNat + 1) ∧ Ls2.length = Ls.length ∧ okS (commitF hh LW lp).2 = true ∧ StepC hh Ls fr ge LW Ls2 fr2 ge2 (commitF hh LW lp).2 ∧ Mem w1 R ([(bs, .cells #[(ptr bj 0), (Value.map (some b2))] 118 (0, 0))] ++ (Hm2 ++ ([(bj, .cells #[(ptr bd 0), (i64 (fr2 : Int)), (i64 (hh : Int)), (u64 ge2), vr2, (i64 (roomB (commitF hh LW lp).2 : Int))] 100 (0, 0))] ++ (Hr2 ++ ([(bd, .cells #[vl, (Value.slice none 0 0)] 94 (0, 0))] ++ (Hl2 ++ ([])))))))) := by
 refine callsR_of_cw (args := [(ptr bs 0), vp]) Try.func41 rfl Try.ntmps41 Try.results41 rfl ?_
 have hnn := hJ.new oM
 have hel := hJ.el
 have hJl := hJ.len; have hJr := hJ.room; have hJh := hJ.half; have hJs := hJ.small; have hrml := room_len (L := LW)
 have hlr := congrArg List.length hMr; rw [List.length_map] at hlr
 have hrO : RightK (openS LW) := openS_right fun b hb => by have := hel b hb; omega
 have hv1 : ∀ p ∈ lp, p.val.2.length ≤ 1048576 := fun p hp => (hep p hp).2
 have hcm := commit_ok (hh := hh) hok hrO hv1
 refine sR <| rw_q rfl (ev_assign (v := (i64 0)) rfl) ?_
 refine rN (sR ?_)
 refine rM rfl (v := vp) rfl <| rw_c rfl (opR_call Try.func32 bd32 nm32 (args1 rfl) (c_sencode vp lp _ (RdK.ofRest hrp hm0) (fun a h => Rd.ofRest (hqp a h) hm0) sL hep)) ?_
 rintro _ w1 ⟨vq2, Hsq2, rfl, grq2, k_w1⟩
 have hm1 : Mem w1 R (Hsq2 ++ ([(bs, .cells #[(ptr bj 0), (Value.map (some b))] 118 (0, 0))] ++ (Hm ++ ([(bj, .cells #[(ptr bd 0), (i64 (fr : Int)), (i64 (hh : Int)), (u64 ge), vr, (i64 (roomB LW : Int))] 100 (0, 0))] ++ (Hr ++ ([(bd, .cells #[vl, (Value.slice none 0 0)] 94 (0, 0))] ++ (Hl ++ ([])))))))) := Mem.new (H := [(bs, .cells #[(ptr bj 0), (Value.map (some b))] 118 (0, 0))] ++ (Hm ++ ([(bj, .cells #[(ptr bd 0), (i64 (fr : Int)), (i64 (hh : Int)), (u64 ge), vr, (i64 (roomB LW : Int))] 100 (0, 0))] ++ (Hr ++ ([(bd, .cells #[vl, (Value.slice none 0 0)] 94 (0, 0))] ++ (Hl ++ ([]))))))) (H' := Hsq2) hm0 k_w1
 refine rw_q rfl (ev_move (v := (Value.tuple #[vq2, (i64 (encE lp))])) rfl) <| rw_q (v := vq2) rfl (ev_extract rfl rfl) <| rw_q (v := (i64 (encE lp))) rfl (ev_extract rfl rfl) <| rA rfl (v := vq2) rfl <| rw_q rfl (ev_assign (v := (i64 (encE lp))) rfl) ?_
 refine rN (cw_seq (sR ?_))
 refine rw_q rfl (ev_move (v := (i64 (encE lp))) rfl) <| rw_q rfl (ev_i64_neq (b := 0) rfl rfl) <| rN ?_
 refine cw_cond rfl (fun hc3 => ?_) (fun hc3 => ?_)
 · -- true
   have hc3p := bne_iff_ne.1 hc3
   refine sR <| rw_q rfl (ev_move (v := (i64 (encE lp))) rfl) <| rw_q rfl (ev_assign (v := (i64 (encE lp))) rfl) ?_
   refine rN (cw_ret (kThen_ret ?_))
   refine fnPost_ret [(i64 (encE lp))] ⟨rfl, trivial⟩ ?_
   have hm4 := Mem.drop Hsq2 _ hm1
   have haR := encE_1 hc3
   have hcf : (commitF hh LW lp) = (1, LW) := by unfold commitF; rw [if_pos haR]
   rw [hcf]
   exact ⟨b, Hm, fr, ge, vr, rs, Hr, Ls, Hl, congrArg i64 (enc_no haR).2, gm, hMr, gr, gl, hJ, ⟨Nat.le_refl _, Nat.le_succ _⟩, rfl, hok, .inl ⟨rfl, rfl, rfl, rfl⟩, (by
     have hT := hm4
     try simp only [List.append_assoc, List.cons_append, List.nil_append, List.append_nil] at hT ⊢
     exact hT)⟩
 · -- false
   have hc3p := eq_of_bne_false hc3
   have haR := encE_0 hc3
   have hev := (enc_yes haR).1
   have hevl : (encV lp).length ≤ 1000000 := by rw [hev]; exact hkl
   have hrS := do_right hrO haR hv1
   have hSl := encS_len (doK (openS LW) lp lp.length)
   refine cw_skip (kThen_normal (sR ?_))
   refine rw_q rfl (ev_move (v := (ptr bs 0)) rfl) <| rw_q rfl (ev_nilCheck rfl) <| rw_q rfl (ev_fa (r := 1) uT118 rfl (by first | rfl | omega) ti116 rfl rfl) <| rw_q (v := (Value.map (some b))) rfl (ev_load1 uT116 rfl rfl ((Mem.pick Hsq2 [_] _ hm1)).h0 rfl) <| rw_c rfl (opR_call Try.func63 bd63 nm63 (args1 rfl) (c_mclone (hB Hm) b (openS LW) _ (MapG.toB gm (Mem.pick2 Hsq2 [_] Hm _ hm1)) (hB_sub fun q hq => (hm1).own _ (List.mem_append_right _ (List.mem_append_right _ (List.mem_append_left _ hq)))))) ?_
   rintro _ w5 ⟨b2q6, Hsq6, rfl, gmq6, k_w5⟩
   have hm5 : Mem w5 R (Hsq6 ++ (Hsq2 ++ ([(bs, .cells #[(ptr bj 0), (Value.map (some b))] 118 (0, 0))] ++ (Hm ++ ([(bj, .cells #[(ptr bd 0), (i64 (fr : Int)), (i64 (hh : Int)), (u64 ge), vr, (i64 (roomB LW : Int))] 100 (0, 0))] ++ (Hr ++ ([(bd, .cells #[vl, (Value.slice none 0 0)] 94 (0, 0))] ++ (Hl ++ ([]))))))))) := Mem.new (H := Hsq2 ++ ([(bs, .cells #[(ptr bj 0), (Value.map (some b))] 118 (0, 0))] ++ (Hm ++ ([(bj, .cells #[(ptr bd 0), (i64 (fr : Int)), (i64 (hh : Int)), (u64 ge), vr, (i64 (roomB LW : Int))] 100 (0, 0))] ++ (Hr ++ ([(bd, .cells #[vl, (Value.slice none 0 0)] 94 (0, 0))] ++ (Hl ++ ([])))))))) (H' := Hsq6) hm1 k_w5
   refine rw_q rfl (ev_assign (v := (Value.map (some b2q6))) rfl) ?_
   refine rN (sR ?_)
   refine rw_q rfl (ev_move (v := (Value.map (some b2q6))) rfl) <| rM rfl (v := vp) rfl ?_
   have hF8 : Mem w5 R ((Hsq6 ++ ([])) ++ (Hsq2 ++ ([(bs, .cells #[(ptr bj 0), (Value.map (some b))] 118 (0, 0))] ++ (Hm ++ ([(bj, .cells #[(ptr bd 0), (i64 (fr : Int)), (i64 (hh : Int)), (u64 ge), vr, (i64 (roomB LW : Int))] 100 (0, 0))] ++ (Hr ++ ([(bd, .cells #[vl, (Value.slice none 0 0)] 94 (0, 0))] ++ (Hl ++ ([]))))))))) := by
     have hT := hm5
     try simp only [List.append_assoc, List.cons_append, List.nil_append, List.append_nil] at hT ⊢
     exact hT
   refine rw_c rfl (opR_call Try.func62 bd62 nm62 (args2 rfl rfl) (c_sdo (hB Hm) b2q6 (openS LW) Hsq6 vp lp _ _ (Mem.give hF8) gmq6 (RdK.addRest hF8 hrp) (fun a h => Rd.addRest hF8 (hqp a h)) sL hep)) ?_
   rintro _ w7 ⟨H2q9, rfl, g2q9, k_w7⟩
   have hm7 : Mem w7 R (H2q9 ++ (Hsq2 ++ ([(bs, .cells #[(ptr bj 0), (Value.map (some b))] 118 (0, 0))] ++ (Hm ++ ([(bj, .cells #[(ptr bd 0), (i64 (fr : Int)), (i64 (hh : Int)), (u64 ge), vr, (i64 (roomB LW : Int))] 100 (0, 0))] ++ (Hr ++ ([(bd, .cells #[vl, (Value.slice none 0 0)] 94 (0, 0))] ++ (Hl ++ ([]))))))))) := (by
     have hT := Mem.back hF8 k_w7
     try simp only [List.append_assoc, List.cons_append, List.nil_append, List.append_nil] at hT ⊢
     exact hT)
   refine rN ?_
   refine CW.abs (fun g => g 0 = (ptr bs 0) ∧ g 1 = vp ∧ g 4 = (i64 0) ∧ g 5 = vq2 ∧ g 6 = (i64 (encE lp)) ∧ g 7 = (Value.map (some b2q6)) ∧ g 16 = (bl ((encE lp) != 0)) ∧ True) ⟨rfl, rfl, rfl, rfl, rfl, rfl, rfl, trivial⟩ ?_
   rintro fr10 ⟨s0, s1, s4, s5, s6, s7, s16, _⟩
   refine cw_seq (sR ?_)
   refine rM rfl s0 <| rw_q rfl (ev_nilCheck rfl) <| rw_q rfl (ev_fa (r := 0) uT118 rfl (by first | rfl | omega) ti29 rfl rfl) <| rw_q (v := (ptr bj 0)) rfl (ev_load1 uT29 rfl rfl ((Mem.pick2 H2q9 Hsq2 [_] _ hm7)).h0 rfl) <| rM rfl s5 <| rw_q (v := (i64 ((encV lp).length : Int))) rfl (ev_len_rd (grq2.rd (Mem.pick H2q9 Hsq2 _ hm7)) uT23 rfl) ?_
   refine rw_c rfl (opR_call Try.func16 bd16 nm16 (args2 rfl rfl) (c_jfits bj bd (fr : Int) (hh : Int) ge vr (roomB LW : Int) ((encV lp).length) _ ((Mem.pick4 H2q9 Hsq2 [_] Hm [_] _ hm7)).h0 sL sL sL)) ?_
   rintro _ w11 ⟨rfl, _ew11⟩
   have hm11 := hm7.ext _ew11
   refine rN ?_
   refine cw_cond rfl (fun hc13 => ?_) (fun hc13 => ?_)
   · -- true
     have hfy := fits_yes hc13
     have hb42 : (encV lp).length ≤ 84000 := by have := blocks_len (n := (encV lp).length) (m := 2000) oM; omega
     refine cw_region <| rM rfl s0 <| rw_q rfl (ev_nilCheck rfl) <| rw_q rfl (ev_fa (r := 0) uT118 rfl (by first | rfl | omega) ti29 rfl rfl) <| rw_q (v := (ptr bj 0)) rfl (ev_load1 uT29 rfl rfl ((Mem.pick2 H2q9 Hsq2 [_] _ hm11)).h0 rfl) <| rM rfl s5 ?_
     have hF15 : Mem w11 R (([(bj, .cells #[(ptr bd 0), (i64 (fr : Int)), (i64 (hh : Int)), (u64 ge), vr, (i64 (roomB LW : Int))] 100 (0, 0))] ++ (Hr ++ ([(bd, .cells #[vl, (Value.slice none 0 0)] 94 (0, 0))] ++ (Hl ++ ([] ++ ([])))))) ++ (H2q9 ++ (Hsq2 ++ ([(bs, .cells #[(ptr bj 0), (Value.map (some b))] 118 (0, 0))] ++ (Hm ++ ([])))))) := by
       have hT := (Mem.pick7 Hr [_] Hl H2q9 Hsq2 [_] Hm [_] _ (Mem.pick7 [_] Hl H2q9 Hsq2 [_] Hm [_] Hr _ (Mem.pick7 Hl H2q9 Hsq2 [_] Hm [_] Hr [_] _ (Mem.pick7 H2q9 Hsq2 [_] Hm [_] Hr [_] Hl _ hm11))))
       try simp only [List.append_assoc, List.cons_append, List.nil_append, List.append_nil] at hT ⊢
       exact hT
     refine rw_c rfl (opR_call Try.func15 bd15 nm15 (args2 rfl rfl) (c_jappend1 bj (fr : Int) (hh : Int) ge vr rs Hr (roomB LW : Int) bd vl Ls Hl (Value.slice none 0 0) ([]) ([]) vq2 (encV lp) _ _ (Mem.give hF15) gr gl (GrowK.none encW 65 104) (grq2.rdAdd hF15 (fun p hp => (List.mem_append_right _ (List.mem_append_left _ hp)))) sL sL sL sL sL sL sL okP_nil hc13)) ?_
     rintro _ w14 ⟨vr2q16, rs2q16, Hr2q16, Hl2q16, rfl, hMq16, hLq16, gr2q16, gl2q16, k_w14⟩
     have hm14 : Mem w14 R ([(bj, .cells #[(ptr bd 0), (i64 (fr : Int)), (i64 (hh : Int)), (u64 ge), vr2q16, (i64 ((roomB LW : Int) + (blocksN (encV lp).length : Int)))] 100 (0, 0))] ++ (Hr2q16 ++ ([(bd, .cells #[vl, (Value.slice none 0 0)] 94 (0, 0))] ++ (Hl2q16 ++ (H2q9 ++ (Hsq2 ++ ([(bs, .cells #[(ptr bj 0), (Value.map (some b))] 118 (0, 0))] ++ (Hm ++ ([]))))))))) := (by
       have hT := Mem.back hF15 k_w14
       try simp only [List.append_assoc, List.cons_append, List.nil_append, List.append_nil] at hT ⊢
       exact hT)
     have hJ3 := append_JI (pI := (fr : Int) + (roomB LW : Int)) (m := (rs.length : Int)) hJ (b := (encV lp)) oM (by push_cast; rfl) oM
     obtain ⟨L3, hL3⟩ : ∃ q : List (List (BitVec 8)), q = (crashB Ls (writeK Ls ([]) ((fr : Int) + (roomB LW : Int)) ge (BitVec.ofInt 64 (rs.length : Int)) (encV lp) (blocksN (encV lp).length)) [1#8]) := ⟨_, rfl⟩
     have gg17 : GrowK (encA u8) 64 83 vl L3 Hl2q16 := GrowK.cast gl2q16 (hL3.symm)
     rw [← hL3] at hJ3
     have hMr3 : rs2q16.map (·.2) = LW ++ [(encV lp)] := by rw [hMq16, hMr]
     have hJ3l := hJ3.len
     have hL3l : L3.length = Ls.length := by rw [hL3, crashB_len]
     have hcf : (commitF hh LW lp) = (0, LW ++ [(encV lp)]) := by unfold commitF; rw [if_neg (by rw [haR]; decide), if_pos hc13]
     have hm18 : Mem w14 R ([(bj, .cells #[(ptr bd 0), (i64 (fr : Int)), (i64 (hh : Int)), (u64 ge), vr2q16, (i64 (roomB (LW ++ [(encV lp)]) : Int))] 100 (0, 0))] ++ (Hr2q16 ++ ([(bd, .cells #[vl, (Value.slice none 0 0)] 94 (0, 0))] ++ (Hl2q16 ++ (H2q9 ++ (Hsq2 ++ ([(bs, .cells #[(ptr bj 0), (Value.map (some b))] 118 (0, 0))] ++ (Hm ++ ([]))))))))) := by rw [show (roomB (LW ++ [(encV lp)]) : Int) = (roomB LW : Int) + (blocksN (encV lp).length : Int) by rw [room_snoc]; push_cast; rfl]; exact hm14
     refine rw_q rfl (ev_assign (v := (i64 0)) rfl) ?_
     refine rN (cw_seq (sR ?_))
     refine rw_q rfl (ev_move (v := (i64 0)) rfl) <| rw_q rfl (ev_i64_eql (b := 0) rfl rfl) <| rN ?_
     have hd19 : (0 == 0) = true := told_true rfl
     refine cw_cond_t rfl hd19 <| cw_region <| rM rfl s0 <| rM rfl s7 <| rw_q rfl (ev_nilCheck rfl) <| rw_q rfl (ev_fa (r := 1) uT118 rfl (by first | rfl | omega) ti116 rfl rfl) ?_
     refine rw_n (or_store1 ti116 rfl rfl rfl ((Mem.pick6 [_] Hr2q16 [_] Hl2q16 H2q9 Hsq2 [_] _ hm18)).h0 (by simp) (.inl (Nat.zero_le _))) ?_
     rintro _ w20 uq20
     have hm20 : Mem w20 R ([(bs, .cells #[(ptr bj 0), (Value.map (some b2q6))] 118 (0, 0)), (bj, .cells #[(ptr bd 0), (i64 (fr : Int)), (i64 (hh : Int)), (u64 ge), vr2q16, (i64 (roomB (LW ++ [(encV lp)]) : Int))] 100 (0, 0))] ++ (Hr2q16 ++ ([(bd, .cells #[vl, (Value.slice none 0 0)] 94 (0, 0))] ++ (Hl2q16 ++ (H2q9 ++ (Hsq2 ++ (Hm ++ ([])))))))) := Mem.upd0 (Mem.pick6 [_] Hr2q16 [_] Hl2q16 H2q9 Hsq2 [_] _ hm18) uq20
     refine rN ?_
     refine CW.abs (fun g => g 0 = (ptr bs 0) ∧ g 1 = vp ∧ g 4 = (i64 0) ∧ g 5 = vq2 ∧ g 6 = (i64 0) ∧ g 7 = (Value.map (some b2q6)) ∧ g 16 = (bl ((encE lp) != 0)) ∧ g 32 = (bl (fitsB (hh : Int) (roomB LW : Int) ((encV lp).length))) ∧ g 52 = (bl (0 == 0)) ∧ True) ⟨s0, s1, s4, s5, rfl, s7, s16, rfl, rfl, trivial⟩ ?_
     rintro fr21 ⟨s0, s1, s4, s5, s6, s7, s16, s32, s52, _⟩
     refine sR <| rM rfl s6 <| rw_q rfl (ev_assign (v := (i64 0)) rfl) ?_
     refine rN (cw_ret ?_)
     refine fnPost_ret [(i64 0)] ⟨rfl, trivial⟩ ?_
     have hm22 := Mem.drop Hsq2 _ (Mem.pick5 [_, _] Hr2q16 [_] Hl2q16 H2q9 Hsq2 _ hm20)
     have hm23 := (Mem.pick3 [_, _] Hr2q16 [_] Hl2q16 _ hm22)
     have hm24 := (Mem.pick3 Hl2q16 [_, _] Hr2q16 [_] _ hm23)
     have hm25 := (Mem.pick3 [_] Hl2q16 [_, _] Hr2q16 _ hm24)
     have hm26 := (Mem.pick4 Hr2q16 [_] Hl2q16 [_] [_] _ hm25)
     have hm27 := (Mem.pick6 [_] Hr2q16 [_] Hl2q16 [_] H2q9 Hm _ hm26)
     have hm28 := (Mem.pick6 Hm [_] Hr2q16 [_] Hl2q16 [_] H2q9 _ hm27)
     have hm29 := (Mem.pick6 H2q9 Hm [_] Hr2q16 [_] Hl2q16 [_] _ hm28)
     have hSc := hcm.2
     have hokc := hcm.1
     rw [hcf] at hSc hokc
     rw [hcf]
     exact ⟨b2q6, H2q9 ++ Hm, fr, ge, vr2q16, rs2q16, Hr2q16, L3, Hl2q16, rfl, MapG.castS (MapG.take g2q9) (hSc.trans (if_pos rfl)).symm, hMr3, gr2q16, gg17, hJ3, (by have := hnn.1; omega), hL3l, hokc, (.inr (.inl ⟨rfl, rfl, ⟨_, rfl⟩, fun p hp hn => by rw [hL3]; exact append_keep (pI := (fr : Int) + (roomB LW : Int)) (m := (rs.length : Int)) hJ oM (by push_cast; rfl) hn⟩)), (by
       have hT := hm29
       try simp only [List.append_assoc, List.cons_append, List.nil_append, List.append_nil] at hT ⊢
       exact hT)⟩
   · -- false
     refine sR <| rM rfl s7 <| rw_c rfl (opR_call Try.func64 bd64 nm64 (args1 rfl) (c_sall b2q6 (doK (openS LW) lp lp.length) _ (MapG.rdIn g2q9 (fun p hp => (hm11).own _ (List.mem_append_left _ hp)) (hB_sub fun q hq => (hm11).own _ (List.mem_append_right _ (List.mem_append_right _ (List.mem_append_right _ (List.mem_append_left _ hq)))))) hrS.small sL)) ?_
     rintro r w30 ⟨psq31, Hsq31, hkq31, haq31, grq31, k_w30⟩
     have hm30 : Mem w30 R (Hsq31 ++ (H2q9 ++ (Hsq2 ++ ([(bs, .cells #[(ptr bj 0), (Value.map (some b))] 118 (0, 0))] ++ (Hm ++ ([(bj, .cells #[(ptr bd 0), (i64 (fr : Int)), (i64 (hh : Int)), (u64 ge), vr, (i64 (roomB LW : Int))] 100 (0, 0))] ++ (Hr ++ ([(bd, .cells #[vl, (Value.slice none 0 0)] 94 (0, 0))] ++ (Hl ++ ([])))))))))) := Mem.new (H := H2q9 ++ (Hsq2 ++ ([(bs, .cells #[(ptr bj 0), (Value.map (some b))] 118 (0, 0))] ++ (Hm ++ ([(bj, .cells #[(ptr bd 0), (i64 (fr : Int)), (i64 (hh : Int)), (u64 ge), vr, (i64 (roomB LW : Int))] 100 (0, 0))] ++ (Hr ++ ([(bd, .cells #[vl, (Value.slice none 0 0)] 94 (0, 0))] ++ (Hl ++ ([]))))))))) (H' := Hsq31) hm11 k_w30
     have hpl8 := congrArg List.length hkq31
     rw [List.length_map] at hpl8
     have hea := enc_all hkq31 (fun a h => (haq31 a h).1) hrS
     refine rw_c rfl (opR_call Try.func32 bd32 nm32 (args1 rfl) (c_sencode r psq31 _ (grq31.rd hm30) (fun a h => ((haq31 a h).2.mono (fun b o e => k_w30.rest b o e))) sL (kv_small hkq31 hrS))) ?_
     rintro _ w32 ⟨vq33, Hsq33, rfl, grq33, k_w32⟩
     have hm32 : Mem w32 R (Hsq33 ++ (Hsq31 ++ (H2q9 ++ (Hsq2 ++ ([(bs, .cells #[(ptr bj 0), (Value.map (some b))] 118 (0, 0))] ++ (Hm ++ ([(bj, .cells #[(ptr bd 0), (i64 (fr : Int)), (i64 (hh : Int)), (u64 ge), vr, (i64 (roomB LW : Int))] 100 (0, 0))] ++ (Hr ++ ([(bd, .cells #[vl, (Value.slice none 0 0)] 94 (0, 0))] ++ (Hl ++ ([]))))))))))) := Mem.new (H := Hsq31 ++ (H2q9 ++ (Hsq2 ++ ([(bs, .cells #[(ptr bj 0), (Value.map (some b))] 118 (0, 0))] ++ (Hm ++ ([(bj, .cells #[(ptr bd 0), (i64 (fr : Int)), (i64 (hh : Int)), (u64 ge), vr, (i64 (roomB LW : Int))] 100 (0, 0))] ++ (Hr ++ ([(bd, .cells #[vl, (Value.slice none 0 0)] 94 (0, 0))] ++ (Hl ++ ([])))))))))) (H' := Hsq33) hm30 k_w32
     refine rw_q rfl (ev_move (v := (Value.tuple #[vq33, (i64 (encE psq31))])) rfl) <| rw_q (v := vq33) rfl (ev_extract rfl rfl) <| rw_q (v := (i64 (encE psq31))) rfl (ev_extract rfl rfl) <| rA rfl (v := vq33) rfl <| rw_q rfl (ev_assign (v := (i64 (encE psq31))) rfl) <| rN ?_
     rcases Bool.eq_false_or_eq_true (decide (blocksN (encS (doK (openS LW) lp lp.length)).length ≤ hh)) with hb34 | hb34
     · -- true
       have hb34p := of_decide_eq_true hb34
       have hw42 : (encS (doK (openS LW) lp lp.length)).length ≤ 84000 := by have h1 := of_decide_eq_true hb34; have := blocks_len (n := (encS (doK (openS LW) lp lp.length)).length) (m := 2000) oM; omega
       refine cw_region <| rM rfl s0 <| rw_q rfl (ev_nilCheck rfl) <| rw_q rfl (ev_fa (r := 0) uT118 rfl (by first | rfl | omega) ti29 rfl rfl) <| rw_q (v := (ptr bj 0)) rfl (ev_load1 uT29 rfl rfl ((Mem.pick4 Hsq33 Hsq31 H2q9 Hsq2 [_] _ hm32)).h0 rfl) <| rM rfl (v := vq33) rfl ?_
       have hF36 : Mem w32 R (([(bj, .cells #[(ptr bd 0), (i64 (fr : Int)), (i64 (hh : Int)), (u64 ge), vr, (i64 (roomB LW : Int))] 100 (0, 0))] ++ (Hr ++ ([(bd, .cells #[vl, (Value.slice none 0 0)] 94 (0, 0))] ++ (Hl ++ ([] ++ ([])))))) ++ (Hsq33 ++ (Hsq31 ++ (H2q9 ++ (Hsq2 ++ ([(bs, .cells #[(ptr bj 0), (Value.map (some b))] 118 (0, 0))] ++ (Hm ++ ([])))))))) := by
         have hT := (Mem.pick9 Hr [_] Hl Hsq33 Hsq31 H2q9 Hsq2 [_] Hm [_] _ (Mem.pick9 [_] Hl Hsq33 Hsq31 H2q9 Hsq2 [_] Hm [_] Hr _ (Mem.pick9 Hl Hsq33 Hsq31 H2q9 Hsq2 [_] Hm [_] Hr [_] _ (Mem.pick9 Hsq33 Hsq31 H2q9 Hsq2 [_] Hm [_] Hr [_] Hl _ hm32))))
         try simp only [List.append_assoc, List.cons_append, List.nil_append, List.append_nil] at hT ⊢
         exact hT
       refine rw_c rfl (opR_call Try.func21 bd21 nm21 (args2 rfl rfl) (c_jrestart1 bj (fr : Int) (hh : Int) ge vr rs Hr (roomB LW : Int) bd vl Ls Hl (Value.slice none 0 0) ([]) ([]) vq33 (encS (doK (openS LW) lp lp.length)) _ _ (Mem.give hF36) gr gl (GrowK.none encW 65 104) ((Grow.cast grq33 hea.1).rdAdd hF36 (fun p hp => (List.mem_append_left _ hp))) sL sL sL sL okP_nil (by have := of_decide_eq_true hb34; omega) hnn.2)) ?_
       rintro _ w35 ⟨vr2q37, rs2q37, Hr2q37, Hl2q37, rfl, hMq37, hLq37, gr2q37, gl2q37, k_w35⟩
       have hm35 : Mem w35 R ([(bj, .cells #[(ptr bd 0), (i64 ((hh : Int) - (fr : Int))), (i64 (hh : Int)), (u64 (newB Ls ([]))), vr2q37, (i64 (blocksN (encS (doK (openS LW) lp lp.length)).length : Int))] 100 (0, 0))] ++ (Hr2q37 ++ ([(bd, .cells #[vl, (Value.slice none 0 0)] 94 (0, 0))] ++ (Hl2q37 ++ (Hsq33 ++ (Hsq31 ++ (H2q9 ++ (Hsq2 ++ ([(bs, .cells #[(ptr bj 0), (Value.map (some b))] 118 (0, 0))] ++ (Hm ++ ([]))))))))))) := (by
         have hT := Mem.back hF36 k_w35
         try simp only [List.append_assoc, List.cons_append, List.nil_append, List.append_nil] at hT ⊢
         exact hT)
       have hJ3 := restart_JI hJ (fI := (hh : Int) - (fr : Int)) oM (b := (encS (doK (openS LW) lp lp.length))) (of_decide_eq_true hb34) oM
       have hcf : (commitF hh LW lp) = (0, [(encS (doK (openS LW) lp lp.length))]) := by unfold commitF; rw [if_neg (by rw [haR]; decide), if_neg (by rw [hc13]; decide), if_pos (of_decide_eq_true hb34)]
       obtain ⟨L3, hL3⟩ : ∃ q : List (List (BitVec 8)), q = (crashB (turnL Ls ([]) ((hh : Int) - (fr : Int)) (newB Ls ([])) [(encS (doK (openS LW) lp lp.length))]) (turnP Ls ([]) ((hh : Int) - (fr : Int)) (newB Ls ([])) [(encS (doK (openS LW) lp lp.length))]) [1#8]) := ⟨_, rfl⟩
       have gg38 : GrowK (encA u8) 64 83 vl L3 Hl2q37 := GrowK.cast gl2q37 (hL3.symm)
       rw [← hL3] at hJ3
       have hMr3 : rs2q37.map (·.2) = [(encS (doK (openS LW) lp lp.length))] := hMq37
       have hJ3l := hJ3.len
       have hL3l : L3.length = Ls.length := by rw [hL3, crashB_len, turnL_len]
       have hm39 : Mem w35 R ([(bj, .cells #[(ptr bd 0), (i64 ((hh - fr : Nat) : Int)), (i64 (hh : Int)), (u64 (newB Ls ([]))), vr2q37, (i64 (blocksN (encS (doK (openS LW) lp lp.length)).length : Int))] 100 (0, 0))] ++ (Hr2q37 ++ ([(bd, .cells #[vl, (Value.slice none 0 0)] 94 (0, 0))] ++ (Hl2q37 ++ (Hsq33 ++ (Hsq31 ++ (H2q9 ++ (Hsq2 ++ ([(bs, .cells #[(ptr bj 0), (Value.map (some b))] 118 (0, 0))] ++ (Hm ++ ([]))))))))))) := by rw [show ((hh - fr : Nat) : Int) = (hh : Int) - (fr : Int) by omega]; exact hm35
       have hm40 : Mem w35 R ([(bj, .cells #[(ptr bd 0), (i64 ((hh - fr : Nat) : Int)), (i64 (hh : Int)), (u64 (newB Ls ([]))), vr2q37, (i64 (roomB [(encS (doK (openS LW) lp lp.length))] : Int))] 100 (0, 0))] ++ (Hr2q37 ++ ([(bd, .cells #[vl, (Value.slice none 0 0)] 94 (0, 0))] ++ (Hl2q37 ++ (Hsq33 ++ (Hsq31 ++ (H2q9 ++ (Hsq2 ++ ([(bs, .cells #[(ptr bj 0), (Value.map (some b))] 118 (0, 0))] ++ (Hm ++ ([]))))))))))) := by rw [show (roomB [(encS (doK (openS LW) lp lp.length))] : Int) = (blocksN (encS (doK (openS LW) lp lp.length)).length : Int) by rw [room_1]]; exact hm39
       refine rw_q rfl (ev_assign (v := (i64 0)) rfl) <| rN ?_
       have hm41 := Mem.drop Hsq31 _ (Mem.pick5 [_] Hr2q37 [_] Hl2q37 Hsq33 Hsq31 _ hm40)
       refine CW.abs (fun g => g 0 = (ptr bs 0) ∧ g 1 = vp ∧ g 4 = (i64 0) ∧ g 5 = vq2 ∧ g 6 = (i64 0) ∧ g 7 = (Value.map (some b2q6)) ∧ g 8 = vq33 ∧ g 16 = (bl ((encE lp) != 0)) ∧ g 32 = (bl (fitsB (hh : Int) (roomB LW : Int) ((encV lp).length))) ∧ True) ⟨s0, s1, s4, s5, rfl, s7, rfl, s16, rfl, trivial⟩ ?_
       rintro fr42 ⟨s0, s1, s4, s5, s6, s7, s8, s16, s32, _⟩
       refine cw_seq (sR ?_)
       refine rM rfl s6 <| rw_q rfl (ev_i64_eql (b := 0) rfl rfl) <| rN ?_
       have hd43 : (0 == 0) = true := told_true rfl
       refine cw_cond_t rfl hd43 <| cw_region <| rM rfl s0 <| rM rfl s7 <| rw_q rfl (ev_nilCheck rfl) <| rw_q rfl (ev_fa (r := 1) uT118 rfl (by first | rfl | omega) ti116 rfl rfl) ?_
       refine rw_n (or_store1 ti116 rfl rfl rfl ((Mem.pick7 [_] Hr2q37 [_] Hl2q37 Hsq33 H2q9 Hsq2 [_] _ hm41)).h0 (by simp) (.inl (Nat.zero_le _))) ?_
       rintro _ w44 uq44
       have hm44 : Mem w44 R ([(bs, .cells #[(ptr bj 0), (Value.map (some b2q6))] 118 (0, 0)), (bj, .cells #[(ptr bd 0), (i64 ((hh - fr : Nat) : Int)), (i64 (hh : Int)), (u64 (newB Ls ([]))), vr2q37, (i64 (roomB [(encS (doK (openS LW) lp lp.length))] : Int))] 100 (0, 0))] ++ (Hr2q37 ++ ([(bd, .cells #[vl, (Value.slice none 0 0)] 94 (0, 0))] ++ (Hl2q37 ++ (Hsq33 ++ (H2q9 ++ (Hsq2 ++ (Hm ++ ([]))))))))) := Mem.upd0 (Mem.pick7 [_] Hr2q37 [_] Hl2q37 Hsq33 H2q9 Hsq2 [_] _ hm41) uq44
       refine rN (sR ?_)
       refine rM rfl s6 <| rw_q rfl (ev_assign (v := (i64 0)) rfl) ?_
       refine rN (cw_ret ?_)
       refine fnPost_ret [(i64 0)] ⟨rfl, trivial⟩ ?_
       have hm45 := Mem.drop Hsq33 _ (Mem.pick4 [_, _] Hr2q37 [_] Hl2q37 Hsq33 _ hm44)
       have hm46 := Mem.drop Hsq2 _ (Mem.pick5 [_, _] Hr2q37 [_] Hl2q37 H2q9 Hsq2 _ hm45)
       have hm47 := (Mem.pick3 [_, _] Hr2q37 [_] Hl2q37 _ hm46)
       have hm48 := (Mem.pick3 Hl2q37 [_, _] Hr2q37 [_] _ hm47)
       have hm49 := (Mem.pick3 [_] Hl2q37 [_, _] Hr2q37 _ hm48)
       have hm50 := (Mem.pick4 Hr2q37 [_] Hl2q37 [_] [_] _ hm49)
       have hm51 := (Mem.pick6 [_] Hr2q37 [_] Hl2q37 [_] H2q9 Hm _ hm50)
       have hm52 := (Mem.pick6 Hm [_] Hr2q37 [_] Hl2q37 [_] H2q9 _ hm51)
       have hm53 := (Mem.pick6 H2q9 Hm [_] Hr2q37 [_] Hl2q37 [_] _ hm52)
       have hSc := hcm.2
       have hokc := hcm.1
       rw [hcf] at hSc hokc
       rw [hcf]
       exact ⟨b2q6, H2q9 ++ Hm, (hh - fr), (newB Ls []), vr2q37, rs2q37, Hr2q37, L3, Hl2q37, rfl, MapG.castS (MapG.take g2q9) (hSc.trans (if_pos rfl)).symm, hMr3, gr2q37, gg38, hJ3, (by have := hnn.1; omega), hL3l, hokc, (.inr (.inr ⟨rfl, hnn.1, ⟨_, rfl⟩, fun p hp hn => by rw [hL3]; exact restart_keep (fI := (hh : Int) - (fr : Int)) hJ oM (of_decide_eq_true hb34) oM hp hn⟩)), (by
         have hT := hm53
         try simp only [List.append_assoc, List.cons_append, List.nil_append, List.append_nil] at hT ⊢
         exact hT)⟩
     · -- false
       have hb34p := of_decide_eq_false hb34
       refine cw_region <| rM rfl s0 <| rw_q rfl (ev_nilCheck rfl) <| rw_q rfl (ev_fa (r := 0) uT118 rfl (by first | rfl | omega) ti29 rfl rfl) <| rw_q (v := (ptr bj 0)) rfl (ev_load1 uT29 rfl rfl ((Mem.pick4 Hsq33 Hsq31 H2q9 Hsq2 [_] _ hm32)).h0 rfl) <| rM rfl (v := vq33) rfl ?_
       refine rw_c rfl (opR_call Try.func21 bd21 nm21 (args2 rfl rfl) (c_jrestart0 bj (fr : Int) (hh : Int) ge vr (roomB LW : Int) bd vl Ls (Value.slice none 0 0) ([]) vq33 (encS (doK (openS LW) lp lp.length)) _ ((Mem.pick6 Hsq33 Hsq31 H2q9 Hsq2 [_] Hm [_] _ hm32)).h0 ((Mem.pick8 Hsq33 Hsq31 H2q9 Hsq2 [_] Hm [_] Hr [_] _ hm32)).h0 (gl.rd (Mem.pick9 Hsq33 Hsq31 H2q9 Hsq2 [_] Hm [_] Hr [_] Hl _ hm32)) (RdK.nil _ _) ((Grow.cast grq33 hea.1).rd hm32) sL sL sL sL (.inl (by have := of_decide_eq_false hb34; omega)))) ?_
       rintro _ w54 ⟨rfl, _ew54⟩
       have hm54 := hm32.ext _ew54
       have hcf : (commitF hh LW lp) = (6, LW) := by unfold commitF; rw [if_neg (by rw [haR]; decide), if_neg (by rw [hc13]; decide), if_neg (of_decide_eq_false hb34)]
       refine rw_q rfl (ev_assign (v := (i64 6)) rfl) <| rN ?_
       have hm56 := Mem.drop Hsq31 _ (Mem.pick Hsq33 Hsq31 _ hm54)
       refine CW.abs (fun g => g 0 = (ptr bs 0) ∧ g 1 = vp ∧ g 4 = (i64 0) ∧ g 5 = vq2 ∧ g 6 = (i64 6) ∧ g 7 = (Value.map (some b2q6)) ∧ g 8 = vq33 ∧ g 16 = (bl ((encE lp) != 0)) ∧ g 32 = (bl (fitsB (hh : Int) (roomB LW : Int) ((encV lp).length))) ∧ True) ⟨s0, s1, s4, s5, rfl, s7, rfl, s16, rfl, trivial⟩ ?_
       rintro fr57 ⟨s0, s1, s4, s5, s6, s7, s8, s16, s32, _⟩
       refine cw_seq (sR ?_)
       refine rM rfl s6 <| rw_q rfl (ev_i64_eql (b := 0) rfl rfl) <| rN ?_
       have hd58 : (6 == 0) = false := by decide
       refine cw_cond_f rfl hd58 ?_
       refine cw_skip (kThen_normal (sR ?_))
       refine rM rfl s6 <| rw_q rfl (ev_assign (v := (i64 6)) rfl) ?_
       refine rN (cw_ret ?_)
       refine fnPost_ret [(i64 6)] ⟨rfl, trivial⟩ ?_
       have hm59 := Mem.drop Hsq33 _ hm56
       have hm60 := Mem.drop H2q9 _ hm59
       have hm61 := Mem.drop Hsq2 _ hm60
       rw [hcf]
       exact ⟨b, Hm, fr, ge, vr, rs, Hr, Ls, Hl, rfl, gm, hMr, gr, gl, hJ, ⟨Nat.le_refl _, Nat.le_succ _⟩, rfl, hok, .inl ⟨rfl, rfl, rfl, rfl⟩, (by
         have hT := hm61
         try simp only [List.append_assoc, List.cons_append, List.nil_append, List.append_nil] at hT ⊢
         exact hT)⟩


end Go.Proofs.Ytfbnhoolkajebaa
