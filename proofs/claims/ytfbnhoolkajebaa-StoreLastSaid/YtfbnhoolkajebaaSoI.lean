/- The law of the last values: plain law, and its walk. Conditions: none beyond those that each theorem states. -/
import Derived.Test.YtfbnhoolkajebaaSoH
namespace Go.Proofs.Ytfbnhoolkajebaa
set_option linter.unusedVariables false
set_option linter.unusedSimpArgs false
/-! One key, put again and again, beside another one. -/
def kK : ByteArray := ⟨#[107]⟩
def kO : ByteArray := ⟨#[111, 116, 104, 101, 114]⟩
def pK (v : Value) (l : List (BitVec 8)) : List PairT := [PairT.mk ⟨#[107]⟩ (toSl v l) false]
def pO (v : Value) (l : List (BitVec 8)) : List PairT := [PairT.mk ⟨#[111, 116, 104, 101, 114]⟩ (toSl v l) false]
def ShapeK (os : List (BitVec 8)) (S : List KV) : Prop := S = [(kO, os)] ∨ ∃ v, v.length ≤ 300 ∧ S = [(kK, v), (kO, os)]
theorem commit_fit {hh : Nat} {LW : List (List (BitVec 8))} {lp : List PairT} (hok : okS LW = true) (hR : RightK (openS LW)) (hv : ∀ p ∈ lp, p.val.2.length ≤ 1048576) (ha : allR lp lp.length = true)
    (hb : blocksN (encS (doK (openS LW) lp lp.length)).length ≤ hh) : (commitF hh LW lp).1 = 0 ∧ openS (commitF hh LW lp).2 = doK (openS LW) lp lp.length := by
  have h0 : (commitF hh LW lp).1 = 0 := by
    unfold commitF
    rw [if_neg (by rw [ha]; decide)]
    by_cases hf : fitsB (hh : Int) (roomB LW : Int) (encV lp).length = true
    · rw [if_pos hf]
    · rw [if_neg hf, if_pos hb]
  have h := (commit_ok (hh := hh) hok hR hv).2
  rw [if_pos h0] at h
  exact ⟨h0, h⟩
theorem pK_all {v : Value} {l : List (BitVec 8)} : allR (pK v l) (pK v l).length = true := by
  unfold allR pK rightP
  simp only [List.length_cons, List.length_nil, List.take, List.all_cons, List.all_nil]
  show rightB 1 _ false && true = true
  unfold rightB; simp
theorem pO_all {v : Value} {l : List (BitVec 8)} : allR (pO v l) (pO v l).length = true := by
  unfold allR pO rightP
  simp only [List.length_cons, List.length_nil, List.take, List.all_cons, List.all_nil]
  show rightB 5 _ false && true = true
  unfold rightB; simp
theorem pK_el {v : Value} {l : List (BitVec 8)} (h : l.length ≤ 1048576) : ∀ a ∈ pK v l, a.key.size ≤ 1048576 ∧ a.val.2.length ≤ 1048576 := fun a ha => by
  obtain rfl := List.mem_singleton.1 ha
  exact ⟨(by decide : (1 : Nat) ≤ 1048576), by rw [toSl_snd]; exact h⟩
theorem pO_el {v : Value} {l : List (BitVec 8)} (h : l.length ≤ 1048576) : ∀ a ∈ pO v l, a.key.size ≤ 1048576 ∧ a.val.2.length ≤ 1048576 := fun a ha => by
  obtain rfl := List.mem_singleton.1 ha
  exact ⟨(by decide : (5 : Nat) ≤ 1048576), by rw [toSl_snd]; exact h⟩
theorem pK_len {v : Value} {l : List (BitVec 8)} (h : l.length ≤ 300) : (encK (pK v l) (pK v l).length).length ≤ 1000000 := by
  show (([] : List (BitVec 8)) ++ recP false ⟨#[107]⟩ (toSl v l).2).length ≤ _
  rw [List.length_append, recP_len, toSl_snd]
  show 0 + (7 + 1 + l.length) ≤ _; omega
theorem pO_len {v : Value} {l : List (BitVec 8)} (h : l.length ≤ 100) : (encK (pO v l) (pO v l).length).length ≤ 1000000 := by
  show (([] : List (BitVec 8)) ++ recP false ⟨#[111, 116, 104, 101, 114]⟩ (toSl v l).2).length ≤ _
  rw [List.length_append, recP_len, toSl_snd]
  show 0 + (7 + 5 + l.length) ≤ _; omega
theorem encS_1 {os : List (BitVec 8)} : (encS [(kO, os)]).length = 12 + os.length := by
  show ((recP false kO os) ++ []).length = _
  rw [List.append_nil, recP_len]; show 7 + 5 + os.length = _; omega
theorem encS_2 {v os : List (BitVec 8)} : (encS [(kK, v), (kO, os)]).length = 20 + v.length + os.length := by
  show ((recP false kK v) ++ ((recP false kO os) ++ [])).length = _
  rw [List.append_nil, List.length_append, recP_len, recP_len]; show 7 + 1 + v.length + (7 + 5 + os.length) = _; omega
theorem doK_K {S : List KV} {v : Value} {l os : List (BitVec 8)} (hS : ShapeK os S) : doK S (pK v l) (pK v l).length = [(kK, l), (kO, os)] := by
  show insK S kK (toSl v l).2 = _
  rw [toSl_snd]
  rcases hS with rfl | ⟨u, _, rfl⟩
  · show (if klt kO kK = true then _ else if kO = kK then _ else _) = _
    rw [if_neg (by decide +kernel), if_neg (by decide +kernel)]
  · show (if klt kK kK = true then _ else if kK = kK then _ else _) = _
    rw [if_neg (by decide +kernel)]; exact if_pos rfl
theorem doK_O {v : Value} {os : List (BitVec 8)} : doK [] (pO v os) (pO v os).length = [(kO, os)] := by
  show insK [] kO (toSl v os).2 = _
  rw [toSl_snd]; rfl
theorem shape_right {os : List (BitVec 8)} {S : List KV} (h : ShapeK os S) (ho : os.length ≤ 100) : RightK S := by
  rcases h with rfl | ⟨v, hv, rfl⟩
  · intro p hp
    obtain rfl := List.mem_singleton.1 hp
    exact ⟨(by decide : (1 : Nat) ≤ 5), (by decide : (5 : Nat) ≤ 1000), by show os.length ≤ _; omega⟩
  · intro p hp
    rcases List.mem_cons.1 hp with rfl | hp
    · exact ⟨(by decide : (1 : Nat) ≤ 1), (by decide : (1 : Nat) ≤ 1000), by show v.length ≤ _; omega⟩
    · obtain rfl := List.mem_singleton.1 hp
      exact ⟨(by decide : (1 : Nat) ≤ 5), (by decide : (5 : Nat) ≤ 1000), by show os.length ≤ _; omega⟩
theorem last_commit {LW : List (List (BitVec 8))} {v : Value} {l os : List (BitVec 8)} (hok : okS LW = true) (hS : ShapeK os (openS LW)) (hl : l.length ≤ 300) (ho : os.length ≤ 100) :
    (commitF 30 LW (pK v l)).1 = 0 ∧ openS (commitF 30 LW (pK v l)).2 = [(kK, l), (kO, os)] := by
  have hd := doK_K (v := v) (l := l) hS
  have h := commit_fit (hh := 30) (lp := pK v l) hok (shape_right hS ho) (fun p hp => (pK_el oM p hp).2) pK_all (by rw [hd, encS_2]; unfold blocksN; omega)
  rw [hd] at h; exact h
theorem first_commit {v : Value} {os : List (BitVec 8)} (ho : os.length ≤ 100) : (commitF 30 [[]] (pO v os)).1 = 0 ∧ openS (commitF 30 [[]] (pO v os)).2 = [(kO, os)] := by
  have hd := doK_O (v := v) (os := os)
  have h := commit_fit (hh := 30) (LW := [[]]) (lp := pO v os) okS_blank (fun p hp => (by cases hp)) (fun p hp => (pO_el oM p hp).2) pO_all (by rw [openS_blank, hd, encS_1]; unfold blocksN; omega)
  rw [openS_blank, hd] at h; exact h
theorem pK_wlen {LW : List (List (BitVec 8))} {v : Value} {l os : List (BitVec 8)} (hS : ShapeK os (openS LW)) (hl : l.length ≤ 300) (ho : os.length ≤ 100) : (encS (doK (openS LW) (pK v l) (pK v l).length)).length ≤ 4000000 := by rw [doK_K hS, encS_2]; omega
theorem pO_wlen {v : Value} {os : List (BitVec 8)} (ho : os.length ≤ 100) : (encS (doK (openS [[]]) (pO v os) (pO v os).length)).length ≤ 4000000 := by rw [openS_blank, doK_O, encS_1]; omega
theorem look_k {S : List KV} {v os : List (BitVec 8)} (h : S = [(kK, v), (kO, os)]) : lkA S ⟨#[107]⟩ = some v ∧ lkA S ⟨#[111, 116, 104, 101, 114]⟩ = some os := by
  subst h
  constructor
  · show (if (⟨#[107]⟩ : ByteArray) = kK then _ else _) = _
    exact if_pos rfl
  · show (if (⟨#[111, 116, 104, 101, 114]⟩ : ByteArray) = kK then _ else if (⟨#[111, 116, 104, 101, 114]⟩ : ByteArray) = kO then _ else _) = _
    rw [if_neg (by decide +kernel)]; exact if_pos rfl
attribute [local irreducible] crashB crashK pushB readB inB errB cutN seenW
attribute [local irreducible] markB putB getB getK partB placeF blkOf rawB writeK blocksN
attribute [local irreducible] mostK newB roomB
attribute [local irreducible] recB recF recN genF badB lastP dataB gOf rOf pOf nOf loopH readH
attribute [local irreducible] okP layK turnL turnP oldB
attribute [local irreducible] openD
attribute [local irreducible] natB tkN tkOk kN vN_ oneOk oneR decF decP decV decE rightB encK recP num2 num4 allR goneB encV encE encL encS doO openK openS okS doK commitF lkA keysB
set_option maxHeartbeats 2000000 in
theorem law_slast (vL : Value) (rl : List SlT) (vo : Value) (os : List (BitVec 8)) (ev : Int) (w0 : World)  (hrl : RdL (blks w0) vL rl) (hre : ∀ p ∈ rl, p.2.length ≤ 9223372036854775807) (hrn : rl.length ≤ 9223372036854775807) (ho : Rd (blks w0) u8 vo os) (hol : os.length ≤ 9223372036854775807) (hev : -9223372036854775808 ≤ ev ∧ ev ≤ 9223372036854775807) : CallsR Try.prog 9 #[vL, vo, (i64 ev)] w0 (fun r w1 => r = bl true ∧ RowKit.Below w0.heap.size w0 w1) := by
 refine callsR_of_cw (args := [vL, vo, (i64 ev)]) Try.func9 rfl Try.ntmps9 Try.results9 rfl ?_
 have hm0 : Mem w0 (restOf w0) [] := Mem.of_world w0
 refine sR <| rw_q rfl (ev_assign (v := (bl false)) rfl) ?_
 refine rN (cw_seq (sR ?_))
 refine rw_c rfl (opR_call Try.func30 bd30 nm30 (args0) (c_speaks16 _)) ?_
 rintro _ w1 ⟨rfl, _ew1⟩
 have hm1 := hm0.ext _ew1
 refine rw_q (v := (bl false)) rfl (ev_not (b := true) rfl) <| rN <| cw_cond_f rfl (by decide) ?_
 refine cw_skip (kThen_normal (cw_seq (sR ?_)))
 refine rM rfl (v := vL) rfl <| rw_q (v := (i64 (rl.length : Int))) rfl (ev_len_rd (RdL.row (RdL.ofRest (R := (restOf w0)) hrl hm1)) uT22 rfl) <| rw_q rfl (ev_i64_gtr (b := 60) rfl rfl) <| rw_q rfl (ev_move (v := (bl (decide (60 < (rl.length : Int))))) rfl) ?_
 rcases Bool.eq_false_or_eq_true (decide (60 < (rl.length : Int))) with hb3 | hb3
 · -- true
   have hb3p := of_decide_eq_true hb3
   refine rw_gn (s := 22) rfl rfl hb3 rfl <| rw_gn (s := 22) rfl rfl hb3 rfl <| rw_gn (s := 22) rfl rfl hb3 rfl <| rw_q rfl (ev_pick_tk rfl hb3 rfl) <| rN <| cw_cond_t rfl (by decide) ?_
   refine sR <| rw_q rfl (ev_assign (v := (bl true)) rfl) ?_
   refine rN (cw_ret (kThen_ret ?_))
   refine fnPost_ret [(bl true)] ⟨rfl, trivial⟩ ?_
   exact ⟨rfl, Mem.below w0 hm1⟩
 · -- false
   have hb3p := of_decide_eq_false hb3
   refine rw_gyq (s := 22) rfl rfl hb3 rfl (ev_move (v := vo) rfl) <| rw_gyq (s := 22) rfl rfl hb3 rfl (ev_len_rd (Rd.ofRest ho hm1) uT23 rfl) <| rw_gyq (s := 22) rfl rfl hb3 rfl (ev_i64_gtr (b := 100) rfl rfl) <| rw_q rfl (ev_pick_fk rfl hb3 rfl) <| rN ?_
   refine cw_cond rfl (fun hc4 => ?_) (fun hc4 => ?_)
   · -- true
     have hc4p := of_decide_eq_true hc4
     refine sR <| rw_q rfl (ev_assign (v := (bl true)) rfl) ?_
     refine rN (cw_ret (kThen_ret ?_))
     refine fnPost_ret [(bl true)] ⟨rfl, trivial⟩ ?_
     exact ⟨rfl, Mem.below w0 hm1⟩
   · -- false
     have hc4p := of_decide_eq_false hc4
     refine cw_skip (kThen_normal (sR ?_))
     refine rw_c rfl (opR_call Try.func13 bd13 nm13 (args1 rfl) (c_dnew (60 : Int) _ sL)) ?_
     rintro _ w5 ⟨bdq6, vlq6, Hlq6, rfl, glq6, k_w5⟩
     have hm5 : Mem w5 (restOf w0) ([(bdq6, .cells #[vlq6, (Value.slice none 0 0)] 94 (0, 0))] ++ (Hlq6 ++ ([]))) := (by
       have hT := Mem.new (H := []) (H' := _) hm1 k_w5
       try simp only [List.append_assoc, List.cons_append, List.nil_append, List.append_nil] at hT ⊢
       exact hT)
     have hbl0 : List.replicate (60 : Int).toNat (List.replicate 64 0) = blank 60 := rfl
     obtain ⟨L0, hL0⟩ : ∃ q : List (List (BitVec 8)), q = (List.replicate (60 : Int).toNat (List.replicate 64 0)) := ⟨_, rfl⟩
     have hL0l : L0.length = 60 := by rw [hL0, hbl0]; simp
     have gg7 : GrowK (encA u8) 64 83 vlq6 L0 Hlq6 := GrowK.cast glq6 (hL0.symm)
     rw [hbl0] at hL0
     obtain ⟨hbJ, hbn⟩ := blank_JI (n := 60) oM oM
     rw [← hL0] at hbJ hbn
     have hn0 := new_le (ls := L0) (by rw [hL0]; exact blank_G _) (by decide)
     have hob0 : oldB L0 [] = ((L0.length : Int) / 2, [[]]) := by rw [hL0]; exact blank_old
     have hodl0 : (openD L0 []).length = L0.length := openD_len
     refine rw_q rfl (ev_move (v := (Value.tuple #[(ptr bdq6 0), (i64 0)])) rfl) <| rw_q (v := (ptr bdq6 0)) rfl (ev_extract rfl rfl) <| rw_q (v := (i64 0)) rfl (ev_extract rfl rfl) <| rw_q rfl (ev_assign (v := (ptr bdq6 0)) rfl) <| rw_q rfl (ev_assign (v := (i64 0)) rfl) <| rN ?_
     refine CW.abs (fun g => g 0 = vL ∧ g 1 = vo ∧ g 2 = (i64 ev) ∧ g 6 = (bl false) ∧ g 7 = (ptr bdq6 0) ∧ g 8 = (i64 0) ∧ g 18 = (bl false) ∧ g 26 = (bl (decide (100 < (os.length : Int)))) ∧ True) ⟨rfl, rfl, rfl, rfl, rfl, rfl, rfl, rfl, trivial⟩ ?_
     rintro fr8 ⟨s0, s1, s2, s6, s7, s8, s18, s26, _⟩
     refine cw_seq (sR ?_)
     refine rM rfl s8 <| rw_q rfl (ev_i64_neq (b := 0) rfl rfl) <| rw_q rfl (ev_move (v := (bl (0 != 0))) rfl) ?_
     have hd9 : (0 != 0) = false := told_ne rfl
     refine rw_gyq (s := 33) rfl rfl hd9 rfl (ev_move s7) <| rw_gyq (s := 33) rfl rfl hd9 rfl (ev_ptr_nil_eql uT25 rfl rfl) <| rw_q rfl (ev_pick_fk rfl hd9 rfl) <| rN <| cw_cond_f rfl (by decide) ?_
     refine cw_skip (kThen_normal (sR ?_))
     refine rM rfl s7 ?_
     have hF11 : Mem w5 (restOf w0) (([(bdq6, .cells #[vlq6, (Value.slice none 0 0)] 94 (0, 0))] ++ (Hlq6 ++ ([]))) ++ ([])) := by
       have hT := (Mem.pick Hlq6 [_] _ (Mem.pick [_] Hlq6 _ hm5))
       try simp only [List.append_assoc, List.cons_append, List.nil_append, List.append_nil] at hT ⊢
       exact hT
     refine rw_c rfl (opR_call Try.func39 bd39 nm39 (args1 rfl) (c_sopen bdq6 vlq6 L0 Hlq6 0 30 [[]] _ _ (Mem.give hF11) gg7 (congrArg Prod.snd hob0) (by rw [hob0]; show _ - (L0.length : Int) / 2 = ((0 : Nat) : Int); omega) hbJ hn0.1 okS_blank oM)) ?_
     rintro _ w10 ⟨bsq12, bjq12, bq12, Hmq12, vrq12, rsq12, Hrq12, Hl2q12, rfl, gmq12, hMq12, grq12, gl2q12, k_w10⟩
     have hm10 : Mem w10 (restOf w0) ([(bsq12, .cells #[(ptr bjq12 0), (Value.map (some bq12))] 118 (0, 0))] ++ (Hmq12 ++ ([(bjq12, .cells #[(ptr bdq6 0), (i64 (0 : Int)), (i64 (30 : Int)), (u64 (newB L0 [])), vrq12, (i64 (roomB [[]] : Int))] 100 (0, 0))] ++ (Hrq12 ++ ([(bdq6, .cells #[vlq6, (Value.slice none 0 0)] 94 (0, 0))] ++ (Hl2q12 ++ ([]))))))) := (by
       have hT := Mem.back hF11 k_w10
       try simp only [List.append_assoc, List.cons_append, List.nil_append, List.append_nil] at hT ⊢
       exact hT)
     refine rw_q rfl (ev_move (v := (Value.tuple #[(ptr bsq12 0), (i64 0)])) rfl) <| rw_q (v := (ptr bsq12 0)) rfl (ev_extract rfl rfl) <| rw_q (v := (i64 0)) rfl (ev_extract rfl rfl) <| rw_q rfl (ev_assign (v := (ptr bsq12 0)) rfl) <| rw_q rfl (ev_assign (v := (i64 0)) rfl) ?_
     refine rN (cw_seq (sR ?_))
     refine rw_q rfl (ev_move (v := (i64 0)) rfl) <| rw_q rfl (ev_i64_neq (b := 0) rfl rfl) <| rw_q rfl (ev_move (v := (bl (0 != 0))) rfl) <| rw_gyq (s := 44) rfl rfl hd9 rfl (ev_move (v := (ptr bsq12 0)) rfl) <| rw_gyq (s := 44) rfl rfl hd9 rfl (ev_ptr_nil_eql uT70 rfl rfl) <| rw_q rfl (ev_pick_fk rfl hd9 rfl) ?_
     refine rw_q rfl (ev_move (v := (bl false)) rfl) <| rw_gyq (s := 48) rfl rfl rfl rfl (ev_move (v := (ptr bsq12 0)) rfl) <| rw_gyq (s := 48) rfl rfl rfl rfl (ev_move s1) <| rw_gyq (s := 48) rfl rfl rfl rfl (ev_build_pt (c := #[(Value.string (⟨#[111, 116, 104, 101, 114]⟩)), vo, (bl false)]) (pl := [(0, 1), (1, 1), (2, 1)]) ti79 uT79 (by kernel_rfl) (pm_cons (i := 0) (v := (Value.string (⟨#[111, 116, 104, 101, 114]⟩))) (cs := #[(Value.string (⟨#[111, 116, 104, 101, 114]⟩))]) rfl rfl (pm_cons (i := 1) (v := vo) (cs := #[vo]) rfl (one_cells (Rd.one (Rd.ofRest ho hm10))) pm_nil)) (by kernel_rfl)) <| rw_gy (s := 48) rfl rfl rfl rfl (or_buildSlice_p (c := #[(Value.string (⟨#[111, 116, 104, 101, 114]⟩)), vo, (bl false)]) hm10 uT55 ti79 rfl (pm_cons rfl rfl pm_nil) (by kernel_rfl)) ?_
     rintro _ w13 ⟨b52, rfl, _ew13, hm13⟩
     have hm13 : Mem w13 (restOf w0) ([(b52, .cells #[(Value.string (⟨#[111, 116, 104, 101, 114]⟩)), vo, (bl false)] 79 (0, 0)), (bsq12, .cells #[(ptr bjq12 0), (Value.map (some bq12))] 118 (0, 0))] ++ (Hmq12 ++ ([(bjq12, .cells #[(ptr bdq6 0), (i64 (0 : Int)), (i64 (30 : Int)), (u64 (newB L0 [])), vrq12, (i64 (roomB [[]] : Int))] 100 (0, 0))] ++ (Hrq12 ++ ([(bdq6, .cells #[vlq6, (Value.slice none 0 0)] 94 (0, 0))] ++ (Hl2q12 ++ ([]))))))) := hm13
     have hF15 : Mem w13 (restOf w0) (([(bsq12, .cells #[(ptr bjq12 0), (Value.map (some bq12))] 118 (0, 0))] ++ (Hmq12 ++ ([(bjq12, .cells #[(ptr bdq6 0), (i64 (0 : Int)), (i64 (30 : Int)), (u64 (newB L0 [])), vrq12, (i64 (roomB [[]] : Int))] 100 (0, 0))] ++ (Hrq12 ++ ([(bdq6, .cells #[vlq6, (Value.slice none 0 0)] 94 (0, 0))] ++ (Hl2q12 ++ ([]))))))) ++ ([(b52, .cells #[(Value.string (⟨#[111, 116, 104, 101, 114]⟩)), vo, (bl false)] 79 (0, 0))])) := by
       have hT := (Mem.pick6 Hmq12 [_] Hrq12 [_] Hl2q12 [_] [_] _ (Mem.pick5 [_] Hrq12 [_] Hl2q12 [_, _] Hmq12 _ (Mem.pick5 Hrq12 [_] Hl2q12 [_, _] Hmq12 [_] _ (Mem.pick5 [_] Hl2q12 [_, _] Hmq12 [_] Hrq12 _ (Mem.pick5 Hl2q12 [_, _] Hmq12 [_] Hrq12 [_] _ (Mem.pick5 [_, _] Hmq12 [_] Hrq12 [_] Hl2q12 _ hm13))))))
       try simp only [List.append_assoc, List.cons_append, List.nil_append, List.append_nil] at hT ⊢
       exact hT
     refine rw_gy (s := 48) rfl rfl rfl rfl (opR_call Try.func41 bd41 nm41 (args2 rfl rfl) (c_scommit bsq12 bjq12 bq12 Hmq12 0 30 (newB L0 []) [[]] vrq12 rsq12 Hrq12 bdq6 vlq6 (openD L0 []) Hl2q12 (slc b52 0 1 1) ([(PairT.mk (⟨#[111, 116, 104, 101, 114]⟩) (toSl vo os) false)]) _ _ (Mem.give hF15) gmq12 grq12 gl2q12 hMq12 hbJ oM okS_blank oM (RdK.ofAll (enc := encP) (k := 3) (l := [(PairT.mk (⟨#[111, 116, 104, 101, 114]⟩) (toSl vo os) false)]) (Mem.addOwn hF15 (List.Mem.head _)) (by show _ = #[_, slv (toSl vo os), _]; rw [Rd.toSl os (Rd.addRest hF15 ho)]) (fun _ _ => rfl)) (hq_cons (Rd.addRest hF15 ho) hq_nil) sL (pO_el oM) (pO_len oM) (pO_wlen oM))) ?_
     rintro _ w14 ⟨b2q16, Hm2q16, fr2q16, ge2q16, vr2q16, rs2q16, Hr2q16, Ls2q16, Hl2q16, rfl, gm2q16, hM2q16, gr2q16, gl2q16, hJ2q16, hg2q16, hl2q16, ho2q16, k_w14⟩
     have hm14 : Mem w14 (restOf w0) ([(bsq12, .cells #[(ptr bjq12 0), (Value.map (some b2q16))] 118 (0, 0))] ++ (Hm2q16 ++ ([(bjq12, .cells #[(ptr bdq6 0), (i64 (fr2q16 : Int)), (i64 (30 : Int)), (u64 ge2q16), vr2q16, (i64 (roomB (commitF 30 [[]] ([(PairT.mk (⟨#[111, 116, 104, 101, 114]⟩) (toSl vo os) false)])).2 : Int))] 100 (0, 0))] ++ (Hr2q16 ++ ([(bdq6, .cells #[vlq6, (Value.slice none 0 0)] 94 (0, 0))] ++ (Hl2q16 ++ ([(b52, .cells #[(Value.string (⟨#[111, 116, 104, 101, 114]⟩)), vo, (bl false)] 79 (0, 0))]))))))) := (by
       have hT := Mem.back hF15 k_w14
       try simp only [List.append_assoc, List.cons_append, List.nil_append, List.append_nil] at hT ⊢
       exact hT)
     have hfc := first_commit (v := vo) (os := os) oM
     obtain ⟨LW1, hLW1⟩ : ∃ q, q = (commitF 30 [[]] (pO vo os)).2 := ⟨_, rfl⟩
     have hG17 : MapG mN b2q16 (openS LW1) Hm2q16 := by rw [hLW1]; exact gm2q16
     have hM1 : rs2q16.map (·.2) = LW1 := by rw [hLW1]; exact hM2q16
     have hJ1 : JI Ls2q16 fr2q16 30 ge2q16 LW1 := by rw [hLW1]; exact hJ2q16
     have hok1 : okS LW1 = true := by rw [hLW1]; exact ho2q16
     have hm18 : Mem w14 (restOf w0) ([(bsq12, .cells #[(ptr bjq12 0), (Value.map (some b2q16))] 118 (0, 0))] ++ (Hm2q16 ++ ([(bjq12, .cells #[(ptr bdq6 0), (i64 (fr2q16 : Int)), (i64 (30 : Int)), (u64 ge2q16), vr2q16, (i64 (roomB LW1 : Int))] 100 (0, 0))] ++ (Hr2q16 ++ ([(bdq6, .cells #[vlq6, (Value.slice none 0 0)] 94 (0, 0))] ++ (Hl2q16 ++ ([(b52, .cells #[(Value.string (⟨#[111, 116, 104, 101, 114]⟩)), vo, (bl false)] 79 (0, 0))]))))))) := by rw [hLW1]; exact hm14
     have hge1 := hg2q16
     have hLl1 := hl2q16
     rw [← hLW1] at hfc
     have hSh1 : ShapeK os (openS LW1) := .inl hfc.2
     refine rw_gyq (s := 48) rfl rfl rfl rfl (ev_i64_neq (b := 0) rfl rfl) <| rw_q rfl (ev_pick_f rfl rfl) <| rN ?_
     have hm19 := Mem.drop ([(b52, .cells #[(Value.string (⟨#[111, 116, 104, 101, 114]⟩)), vo, (bl false)] 79 (0, 0))]) _ (Mem.pick6 [_] Hm2q16 [_] Hr2q16 [_] Hl2q16 [_] _ hm18)
     refine CW.abs (fun g => g 0 = vL ∧ g 1 = vo ∧ g 2 = (i64 ev) ∧ g 6 = (bl false) ∧ g 7 = (ptr bdq6 0) ∧ g 8 = (i64 0) ∧ g 9 = (ptr bsq12 0) ∧ g 10 = (i64 0) ∧ g 18 = (bl false) ∧ g 26 = (bl (decide (100 < (os.length : Int)))) ∧ g 36 = (bl false) ∧ g 55 = (bl (((commitF 30 [[]] ([(PairT.mk (⟨#[111, 116, 104, 101, 114]⟩) (toSl vo os) false)])).1) != 0)) ∧ True) ⟨s0, s1, s2, s6, s7, s8, rfl, rfl, s18, s26, rfl, rfl, trivial⟩ ?_
     rintro fr20 ⟨s0, s1, s2, s6, s7, s8, s9, s10, s18, s26, s36, s55, _⟩
     have hd21 : (((commitF 30 [[]] ([(PairT.mk (⟨#[111, 116, 104, 101, 114]⟩) (toSl vo os) false)])).1) != 0) = false := (bne_eq_false_iff_eq.2 hfc.1)
     refine cw_cond_f s55 hd21 ?_
     refine cw_skip (kThen_normal (cw_seq (sR ?_)))
     refine rM rfl s0 <| rw_q (v := (i64 (rl.length : Int))) rfl (ev_len_rd (RdL.row (RdL.ofRest (R := (restOf w0)) hrl hm19)) uT22 rfl) <| rw_q rfl (ev_move (v := (i64 0)) rfl) ?_
     refine rN (cw_block ?_)
     refine cw_loop (fun g wv => ∃ (k bs1 bj1 b1 : Nat) (Hm1 : List (Nat × Obj)) (fr : Nat) (ge : BitVec 64) (vr1 : Value) (rs1 : List SlT) (Hr1 : List (Nat × Obj)) (L1 : List (List (BitVec 8))) (Hl1 : List (Nat × Obj)) (LW : List (List (BitVec 8))), (k ≤ rl.length) ∧ (JI L1 fr 30 ge LW) ∧ (ge.toNat ≤ 2 * k + 2) ∧ (okS LW = true) ∧ (rs1.map (·.2) = LW) ∧ (ShapeK os (openS LW)) ∧ (L1.length = 60) ∧ (MapG mN b1 (openS LW) Hm1) ∧ (GrowL mN 23 vr1 rs1 Hr1) ∧ (GrowK (encA u8) 64 83 vlq6 L1 Hl1) ∧ g 0 = vL ∧ g 1 = vo ∧ g 2 = (i64 ev) ∧ g 7 = (ptr bdq6 0) ∧ g 8 = (i64 0) ∧ g 9 = (ptr bs1 0) ∧ g 18 = (bl false) ∧ g 26 = (bl (decide (100 < (os.length : Int)))) ∧ g 36 = (bl false) ∧ g 55 = (bl (((commitF 30 [[]] ([(PairT.mk (⟨#[111, 116, 104, 101, 114]⟩) (toSl vo os) false)])).1) != 0)) ∧ g 56 = vL ∧ g 57 = (i64 (rl.length : Int)) ∧ g 58 = (i64 (k : Int)) ∧ Mem wv (restOf w0) ([(bs1, .cells #[(ptr bj1 0), (Value.map (some b1))] 118 (0, 0))] ++ (Hm1 ++ ([(bj1, .cells #[(ptr bdq6 0), (i64 (fr : Int)), (i64 (30 : Int)), (u64 ge), vr1, (i64 (roomB LW : Int))] 100 (0, 0))] ++ (Hr1 ++ ([(bdq6, .cells #[vlq6, (Value.slice none 0 0)] 94 (0, 0))] ++ (Hl1 ++ ([])))))))) (fun g wv => ((rl.length : Int) - RowKit.intOf (g 58)).toNat) ?_ ?_
     · exact ⟨0, bsq12, bjq12, b2q16, Hm2q16, fr2q16, ge2q16, vr2q16, rs2q16, Hr2q16, Ls2q16, Hl2q16, LW1, (Nat.zero_le _), hJ1, oM, hok1, hM1, hSh1, oM, hG17, gr2q16, gl2q16, s0, s1, s2, s7, s8, s9, s18, s26, s36, s55, rfl, rfl, rfl, (by
       have hT := hm19
       try simp only [List.append_assoc, List.cons_append, List.nil_append, List.append_nil] at hT ⊢
       exact hT)⟩
     · rintro fr22 w23 ⟨k, bs1, bj1, b1, Hm1, fr, ge, vr1, rs1, Hr1, L1, Hl1, LW, hk, hJ, hg, hok, hMr, hSh, hL1, gm1, gr1, gl1, s0, s1, s2, s7, s8, s9, s18, s26, s36, s55, s56, s57, s58, hm23⟩
       have z9 := s9
       have z58 := s58
       have hlwr := congrArg List.length hMr; rw [List.length_map] at hlwr
       have hJl := hJ.len; have hJr := hJ.room; have hJh := hJ.half; have hJs := hJ.small
       refine sR <| rw_q rfl (ev_i64_lss s58 s57) ?_
       refine rN (cw_seq ?_)
       refine cw_cond rfl (fun hc24 => ?_) (fun hc24 => ?_)
       · -- true
         have hc24p := of_decide_eq_true hc24
         have hb0 := hre _ (getD_mem (d := sl0) (show k < rl.length by omega))
         refine cw_skip (kThen_normal (cw_seq (cw_block (sR ?_))))
         refine rM rfl s58 <| rw_q rfl (ev_indexAddr_rdv (RdL.row (RdL.ofRest (R := (restOf w0)) hrl hm23)) uT22 ti23 s56 s58 oM sL) <| rw_q (v := (slv (rl.getD k sl0))) rfl (ev_load_rdD (l := rl) (i := (k : Int)) (dflt := sl0) (RdL.row (RdL.ofRest (R := (restOf w0)) hrl hm23)) uT23 rfl oM sL rfl) <| rw_q rfl (ev_assign (v := (i64 (k : Int))) rfl) <| rw_q rfl (ev_assign (v := (slv (rl.getD k sl0))) rfl) ?_
         refine rN (cw_seq (sR ?_))
         refine rw_q rfl (ev_move (v := (slv (rl.getD k sl0))) rfl) <| rw_q (v := (i64 (((rl.getD k sl0).2).length : Int))) rfl (ev_len_rd (RdL.get (k := k) (RdL.ofRest (R := (restOf w0)) hrl hm23) sL) uT23 rfl) <| rw_q rfl (ev_i64_gtr (b := 300) rfl rfl) <| rN ?_
         refine cw_cond rfl (fun hc25 => ?_) (fun hc25 => ?_)
         · -- true
           have hc25p := of_decide_eq_true hc25
           refine sR <| rw_q rfl (ev_assign (v := (bl true)) rfl) ?_
           refine rN (cw_ret ?_)
           refine kThen_ret (kBlk_ret (kThen_ret (kBlk_ret ?_)))
           refine fnPost_ret [(bl true)] ⟨rfl, trivial⟩ ?_
           exact ⟨rfl, Mem.below w0 hm23⟩
         · -- false
           have hc25p := of_decide_eq_false hc25
           refine cw_skip (kThen_normal (cw_seq (sR ?_)))
           refine rM rfl s9 <| rw_q rfl (ev_move (v := (slv (rl.getD k sl0))) rfl) <| rw_q rfl (ev_build_pt (c := #[(Value.string (⟨#[107]⟩)), (slv (rl.getD k sl0)), (bl false)]) (pl := [(0, 1), (1, 1), (2, 1)]) ti79 uT79 (by kernel_rfl) (pm_cons (i := 0) (v := (Value.string (⟨#[107]⟩))) (cs := #[(Value.string (⟨#[107]⟩))]) rfl rfl (pm_cons (i := 1) (v := (slv (rl.getD k sl0))) (cs := #[(slv (rl.getD k sl0))]) rfl (one_cells rfl) pm_nil)) (by kernel_rfl)) <| rw_c rfl (or_buildSlice_p (c := #[(Value.string (⟨#[107]⟩)), (slv (rl.getD k sl0)), (bl false)]) hm23 uT55 ti79 rfl (pm_cons rfl rfl pm_nil) (by kernel_rfl)) ?_
           rintro _ w26 ⟨b69, rfl, _ew26, hm26⟩
           have hm26 : Mem w26 (restOf w0) ([(b69, .cells #[(Value.string (⟨#[107]⟩)), (slv (rl.getD k sl0)), (bl false)] 79 (0, 0)), (bs1, .cells #[(ptr bj1 0), (Value.map (some b1))] 118 (0, 0))] ++ (Hm1 ++ ([(bj1, .cells #[(ptr bdq6 0), (i64 (fr : Int)), (i64 (30 : Int)), (u64 ge), vr1, (i64 (roomB LW : Int))] 100 (0, 0))] ++ (Hr1 ++ ([(bdq6, .cells #[vlq6, (Value.slice none 0 0)] 94 (0, 0))] ++ (Hl1 ++ ([]))))))) := hm26
           have hF28 : Mem w26 (restOf w0) (([(bs1, .cells #[(ptr bj1 0), (Value.map (some b1))] 118 (0, 0))] ++ (Hm1 ++ ([(bj1, .cells #[(ptr bdq6 0), (i64 (fr : Int)), (i64 (30 : Int)), (u64 ge), vr1, (i64 (roomB LW : Int))] 100 (0, 0))] ++ (Hr1 ++ ([(bdq6, .cells #[vlq6, (Value.slice none 0 0)] 94 (0, 0))] ++ (Hl1 ++ ([]))))))) ++ ([(b69, .cells #[(Value.string (⟨#[107]⟩)), (slv (rl.getD k sl0)), (bl false)] 79 (0, 0))])) := by
             have hT := (Mem.pick6 Hm1 [_] Hr1 [_] Hl1 [_] [_] _ (Mem.pick5 [_] Hr1 [_] Hl1 [_, _] Hm1 _ (Mem.pick5 Hr1 [_] Hl1 [_, _] Hm1 [_] _ (Mem.pick5 [_] Hl1 [_, _] Hm1 [_] Hr1 _ (Mem.pick5 Hl1 [_, _] Hm1 [_] Hr1 [_] _ (Mem.pick5 [_, _] Hm1 [_] Hr1 [_] Hl1 _ hm26))))))
             try simp only [List.append_assoc, List.cons_append, List.nil_append, List.append_nil] at hT ⊢
             exact hT
           refine rw_c rfl (opR_call Try.func41 bd41 nm41 (args2 rfl rfl) (c_scommit bs1 bj1 b1 Hm1 _ 30 ge LW vr1 rs1 Hr1 bdq6 vlq6 L1 Hl1 (slc b69 0 1 1) ([(PairT.mk (⟨#[107]⟩) (toSl (slv (rl.getD k sl0)) ((rl.getD k sl0).2)) false)]) _ _ (Mem.give hF28) gm1 gr1 gl1 hMr hJ oM hok oM (RdK.ofAll (enc := encP) (k := 3) (l := [(PairT.mk (⟨#[107]⟩) (toSl (slv (rl.getD k sl0)) ((rl.getD k sl0).2)) false)]) (Mem.addOwn hF28 (List.Mem.head _)) (by show _ = #[_, slv (toSl (slv (rl.getD k sl0)) ((rl.getD k sl0).2)), _]; rw [Rd.toSl ((rl.getD k sl0).2) (RdL.get (k := k) (RdL.addRest hF28 hrl) sL)]) (fun _ _ => rfl)) (hq_cons (RdL.get (k := k) (RdL.addRest hF28 hrl) sL) hq_nil) sL (pK_el oM) (pK_len oM) (pK_wlen hSh oM oM))) ?_
           rintro _ w27 ⟨b2q29, Hm2q29, fr2q29, ge2q29, vr2q29, rs2q29, Hr2q29, Ls2q29, Hl2q29, rfl, gm2q29, hM2q29, gr2q29, gl2q29, hJ2q29, hg2q29, hl2q29, ho2q29, k_w27⟩
           have hm27 : Mem w27 (restOf w0) ([(bs1, .cells #[(ptr bj1 0), (Value.map (some b2q29))] 118 (0, 0))] ++ (Hm2q29 ++ ([(bj1, .cells #[(ptr bdq6 0), (i64 (fr2q29 : Int)), (i64 (30 : Int)), (u64 ge2q29), vr2q29, (i64 (roomB (commitF 30 LW ([(PairT.mk (⟨#[107]⟩) (toSl (slv (rl.getD k sl0)) ((rl.getD k sl0).2)) false)])).2 : Int))] 100 (0, 0))] ++ (Hr2q29 ++ ([(bdq6, .cells #[vlq6, (Value.slice none 0 0)] 94 (0, 0))] ++ (Hl2q29 ++ ([(b69, .cells #[(Value.string (⟨#[107]⟩)), (slv (rl.getD k sl0)), (bl false)] 79 (0, 0))]))))))) := (by
             have hT := Mem.back hF28 k_w27
             try simp only [List.append_assoc, List.cons_append, List.nil_append, List.append_nil] at hT ⊢
             exact hT)
           have hlc := last_commit (v := slv (rl.getD k sl0)) (l := (rl.getD k sl0).2) hok hSh oM oM
           obtain ⟨LW3, hLW3⟩ : ∃ q, q = (commitF 30 LW (pK (slv (rl.getD k sl0)) (rl.getD k sl0).2)).2 := ⟨_, rfl⟩
           have hG30 : MapG mN b2q29 (openS LW3) Hm2q29 := by rw [hLW3]; exact gm2q29
           have hM3 : rs2q29.map (·.2) = LW3 := by rw [hLW3]; exact hM2q29
           have hJ3 : JI Ls2q29 fr2q29 30 ge2q29 LW3 := by rw [hLW3]; exact hJ2q29
           have hok3 : okS LW3 = true := by rw [hLW3]; exact ho2q29
           have hm31 : Mem w27 (restOf w0) ([(bs1, .cells #[(ptr bj1 0), (Value.map (some b2q29))] 118 (0, 0))] ++ (Hm2q29 ++ ([(bj1, .cells #[(ptr bdq6 0), (i64 (fr2q29 : Int)), (i64 (30 : Int)), (u64 ge2q29), vr2q29, (i64 (roomB LW3 : Int))] 100 (0, 0))] ++ (Hr2q29 ++ ([(bdq6, .cells #[vlq6, (Value.slice none 0 0)] 94 (0, 0))] ++ (Hl2q29 ++ ([(b69, .cells #[(Value.string (⟨#[107]⟩)), (slv (rl.getD k sl0)), (bl false)] 79 (0, 0))]))))))) := by rw [hLW3]; exact hm27
           have hge3 := hg2q29
           have hLl3 := hl2q29
           rw [← hLW3] at hlc
           have hS3 := hlc.2
           have hlk := look_k hS3
           have hS3r := shape_right (os := os) (.inr ⟨_, (show (rl.getD k sl0).2.length ≤ 300 by omega), hS3⟩) oM
           have hS3l : (openS LW3).length = 2 := by rw [hS3]; rfl
           have hv1 : ((lkA (openS LW3) ⟨#[107]⟩).getD []).length ≤ 300 := by rw [hlk.1]; show (rl.getD k sl0).2.length ≤ 300; omega
           have hv2 : ((lkA (openS LW3) ⟨#[111, 116, 104, 101, 114]⟩).getD []).length ≤ 100 := by rw [hlk.2]; show os.length ≤ 100; omega
           refine rw_q rfl (ev_i64_neq (b := 0) rfl rfl) <| rN ?_
           have hd32 : (((commitF 30 LW ([(PairT.mk (⟨#[107]⟩) (toSl (slv (rl.getD k sl0)) ((rl.getD k sl0).2)) false)])).1) != 0) = false := (bne_eq_false_iff_eq.2 hlc.1)
           refine cw_cond_f rfl hd32 ?_
           refine cw_skip (kThen_normal (cw_seq (cw_seq ?_)))
           have hand : (BitVec.ofInt 64 ev).toNat &&& (7 : Int).toNat ≤ 7 := Nat.and_le_right
           refine cw_region <| rw_q rfl (ev_move (v := (i64 (k : Int))) rfl) <| rM rfl s2 <| rw_q rfl (ev_i64_and (b := 7) rfl rfl oM oM) <| rw_q rfl (ev_i64_add (b := 1) rfl rfl oM oM) <| rw_q rfl (ev_i64_rem rfl rfl oM oM oM) ?_
           refine rw_q rfl (ev_i64_eql (b := 0) rfl rfl) <| rN ?_
           have hm33 := Mem.drop ([(b69, .cells #[(Value.string (⟨#[107]⟩)), (slv (rl.getD k sl0)), (bl false)] 79 (0, 0))]) _ (Mem.pick6 [_] Hm2q29 [_] Hr2q29 [_] Hl2q29 [_] _ hm31)
           refine CW.abs (fun g => g 0 = vL ∧ g 1 = vo ∧ g 2 = (i64 ev) ∧ g 7 = (ptr bdq6 0) ∧ g 8 = (i64 0) ∧ g 9 = (ptr bs1 0) ∧ g 11 = (i64 (k : Int)) ∧ g 12 = (slv (rl.getD k sl0)) ∧ g 18 = (bl false) ∧ g 26 = (bl (decide (100 < (os.length : Int)))) ∧ g 36 = (bl false) ∧ g 55 = (bl (((commitF 30 [[]] ([(PairT.mk (⟨#[111, 116, 104, 101, 114]⟩) (toSl vo os) false)])).1) != 0)) ∧ g 56 = vL ∧ g 57 = (i64 (rl.length : Int)) ∧ g 58 = (i64 (k : Int)) ∧ g 59 = (bl (decide ((k : Int) < (rl.length : Int)))) ∧ g 65 = (bl (decide (300 < (((rl.getD k sl0).2).length : Int)))) ∧ g 71 = (bl (((commitF 30 LW ([(PairT.mk (⟨#[107]⟩) (toSl (slv (rl.getD k sl0)) ((rl.getD k sl0).2)) false)])).1) != 0)) ∧ g 77 = (bl (((k : Int) % ((((BitVec.ofInt 64 ev).toNat &&& (7 : Int).toNat : Nat) : Int) + 1)) == 0)) ∧ True) ⟨s0, s1, s2, s7, s8, s9, rfl, rfl, s18, s26, s36, s55, s56, s57, s58, rfl, rfl, rfl, rfl, trivial⟩ ?_
           rintro fr34 ⟨s0, s1, s2, s7, s8, s9, s11, s12, s18, s26, s36, s55, s56, s57, s58, s59, s65, s71, s77, _⟩
           refine cw_cond s77 (fun hc35 => ?_) (fun hc35 => ?_)
           · -- true
             have hc35p := eq_of_beq hc35
             refine sR <| rM rfl s7 <| rM rfl s12 ?_
             have hF37 : Mem w27 (restOf w0) (([(bdq6, .cells #[vlq6, (Value.slice none 0 0)] 94 (0, 0))] ++ (Hl2q29 ++ ([] ++ ([])))) ++ ([(bs1, .cells #[(ptr bj1 0), (Value.map (some b2q29))] 118 (0, 0))] ++ (Hm2q29 ++ ([(bj1, .cells #[(ptr bdq6 0), (i64 (fr2q29 : Int)), (i64 (30 : Int)), (u64 ge2q29), vr2q29, (i64 (roomB LW3 : Int))] 100 (0, 0))] ++ (Hr2q29 ++ ([])))))) := by
               have hT := (Mem.pick5 Hl2q29 [_] Hm2q29 [_] Hr2q29 [_] _ (Mem.pick5 [_] Hm2q29 [_] Hr2q29 [_] Hl2q29 _ hm33))
               try simp only [List.append_assoc, List.cons_append, List.nil_append, List.append_nil] at hT ⊢
               exact hT
             refine rw_c rfl (opR_call Try.func17 bd17 nm17 (args2 rfl rfl) (c_dcrash bdq6 vlq6 Ls2q29 Hl2q29 (Value.slice none 0 0) ([]) ([]) (slv (rl.getD k sl0)) ((rl.getD k sl0).2) _ _ (Mem.give hF37) gl2q29 (GrowK.none encW 65 104) (RdL.get (k := k) (RdL.addRest hF37 hrl) sL) (okP_hat okP_nil) sL sL sL)) ?_
             rintro _ w36 ⟨Hl2q38, rfl, gl2q38, k_w36⟩
             have hm36 : Mem w36 (restOf w0) ([(bdq6, .cells #[vlq6, (Value.slice none 0 0)] 94 (0, 0))] ++ (Hl2q38 ++ ([(bs1, .cells #[(ptr bj1 0), (Value.map (some b2q29))] 118 (0, 0))] ++ (Hm2q29 ++ ([(bj1, .cells #[(ptr bdq6 0), (i64 (fr2q29 : Int)), (i64 (30 : Int)), (u64 ge2q29), vr2q29, (i64 (roomB LW3 : Int))] 100 (0, 0))] ++ (Hr2q29 ++ ([]))))))) := (by
               have hT := Mem.back hF37 k_w36
               try simp only [List.append_assoc, List.cons_append, List.nil_append, List.append_nil] at hT ⊢
               exact hT)
             have gg39 : GrowK (encA u8) 64 83 vlq6 Ls2q29 Hl2q38 := GrowK.cast gl2q38 (crash_none)
             refine rN (cw_seq ?_)
             have hnnq40 := hJ3.new oM
             have hobq40 := hJ3.old
             obtain ⟨frOq40, hfrOq40⟩ : ∃ q : Nat, q = 30 - fr2q29 := ⟨_, rfl⟩
             have hJoq40 := open_JI hJ3 oM
             rw [← hfrOq40] at hJoq40
             have hJlq40 := hJ3.len
             have hJhq40 := hJ3.half
             refine cw_region <| rM rfl s7 ?_
             have hF42 : Mem w36 (restOf w0) (([(bdq6, .cells #[vlq6, (Value.slice none 0 0)] 94 (0, 0))] ++ (Hl2q38 ++ ([]))) ++ ([(bs1, .cells #[(ptr bj1 0), (Value.map (some b2q29))] 118 (0, 0))] ++ (Hm2q29 ++ ([(bj1, .cells #[(ptr bdq6 0), (i64 (fr2q29 : Int)), (i64 (30 : Int)), (u64 ge2q29), vr2q29, (i64 (roomB LW3 : Int))] 100 (0, 0))] ++ (Hr2q29 ++ ([])))))) := by
               have hT := (Mem.pick Hl2q38 [_] _ (Mem.pick [_] Hl2q38 _ hm36))
               try simp only [List.append_assoc, List.cons_append, List.nil_append, List.append_nil] at hT ⊢
               exact hT
             refine rw_c rfl (opR_call Try.func39 bd39 nm39 (args1 rfl) (c_sopen bdq6 vlq6 Ls2q29 Hl2q38 frOq40 30 LW3 _ _ (Mem.give hF42) gg39 (congrArg Prod.snd hobq40) (by rw [hobq40]; show _ - ((fr2q29 : Nat) : Int) = ((frOq40 : Nat) : Int); omega) hJoq40 hnnq40.2 hok3 oM)) ?_
             rintro _ w41 ⟨bsq43, bjq43, bq43, Hmq43, vrq43, rsq43, Hrq43, Hl2q43, rfl, gmq43, hMq43, grq43, gl2q43, k_w41⟩
             have hm41 : Mem w41 (restOf w0) ([(bsq43, .cells #[(ptr bjq43 0), (Value.map (some bq43))] 118 (0, 0))] ++ (Hmq43 ++ ([(bjq43, .cells #[(ptr bdq6 0), (i64 (frOq40 : Int)), (i64 (30 : Int)), (u64 (newB Ls2q29 [])), vrq43, (i64 (roomB LW3 : Int))] 100 (0, 0))] ++ (Hrq43 ++ ([(bdq6, .cells #[vlq6, (Value.slice none 0 0)] 94 (0, 0))] ++ (Hl2q43 ++ ([(bs1, .cells #[(ptr bj1 0), (Value.map (some b2q29))] 118 (0, 0))] ++ (Hm2q29 ++ ([(bj1, .cells #[(ptr bdq6 0), (i64 (fr2q29 : Int)), (i64 (30 : Int)), (u64 ge2q29), vr2q29, (i64 (roomB LW3 : Int))] 100 (0, 0))] ++ (Hr2q29 ++ ([]))))))))))) := (by
               have hT := Mem.back hF42 k_w41
               try simp only [List.append_assoc, List.cons_append, List.nil_append, List.append_nil] at hT ⊢
               exact hT)
             have hm44 := Mem.drop ([(bs1, .cells #[(ptr bj1 0), (Value.map (some b2q29))] 118 (0, 0))]) _ (Mem.pick6 [_] Hmq43 [_] Hrq43 [_] Hl2q43 [_] _ hm41)
             have hm45 := Mem.drop Hm2q29 _ (Mem.pick6 [_] Hmq43 [_] Hrq43 [_] Hl2q43 Hm2q29 _ hm44)
             have hm46 := Mem.drop ([(bj1, .cells #[(ptr bdq6 0), (i64 (fr2q29 : Int)), (i64 (30 : Int)), (u64 ge2q29), vr2q29, (i64 (roomB LW3 : Int))] 100 (0, 0))]) _ (Mem.pick6 [_] Hmq43 [_] Hrq43 [_] Hl2q43 [_] _ hm45)
             have hm47 := Mem.drop Hr2q29 _ (Mem.pick6 [_] Hmq43 [_] Hrq43 [_] Hl2q43 Hr2q29 _ hm46)
             have hodlbsq43 : (openD Ls2q29 []).length = Ls2q29.length := openD_len
             refine rw_q rfl (ev_move (v := (Value.tuple #[(ptr bsq43 0), (i64 0)])) rfl) <| rw_q (v := (ptr bsq43 0)) rfl (ev_extract rfl rfl) <| rw_q (v := (i64 0)) rfl (ev_extract rfl rfl) <| rw_q rfl (ev_assign (v := (ptr bsq43 0)) rfl) <| rw_q rfl (ev_assign (v := (i64 0)) rfl) ?_
             refine rN (sR ?_)
             refine rw_q rfl (ev_move (v := (i64 0)) rfl) <| rw_q rfl (ev_i64_neq (b := 0) rfl rfl) <| rw_q rfl (ev_move (v := (bl (0 != 0))) rfl) <| rw_gyq (s := 88) rfl rfl hd9 rfl (ev_move (v := (ptr bsq43 0)) rfl) <| rw_gyq (s := 88) rfl rfl hd9 rfl (ev_ptr_nil_eql uT70 rfl rfl) <| rw_q rfl (ev_pick_fk rfl hd9 rfl) ?_
             refine rN <| cw_cond_f rfl (by decide) ?_
             refine cw_skip (kThen_normal (sR ?_))
             refine rw_q rfl (ev_move (v := (ptr bsq43 0)) rfl) <| rw_c rfl (opR_call Try.func47 bd47 nm47 (args2 rfl rfl) (c_sget bsq43 bjq43 bq43 (openS LW3) (⟨#[107]⟩) _ hm47.h0 (MapG.rdIn gmq43 (fun p hp => (hm47).own _ (List.mem_append_right _ (List.mem_append_left _ hp))) nN) hS3r.small sL)) ?_
             rintro _ w48 ⟨vq49, Hsq49, rfl, grq49, k_w48⟩
             have hm48 : Mem w48 (restOf w0) (Hsq49 ++ ([(bsq43, .cells #[(ptr bjq43 0), (Value.map (some bq43))] 118 (0, 0))] ++ (Hmq43 ++ ([(bjq43, .cells #[(ptr bdq6 0), (i64 (frOq40 : Int)), (i64 (30 : Int)), (u64 (newB Ls2q29 [])), vrq43, (i64 (roomB LW3 : Int))] 100 (0, 0))] ++ (Hrq43 ++ ([(bdq6, .cells #[vlq6, (Value.slice none 0 0)] 94 (0, 0))] ++ (Hl2q43 ++ ([])))))))) := Mem.new (H := [(bsq43, .cells #[(ptr bjq43 0), (Value.map (some bq43))] 118 (0, 0))] ++ (Hmq43 ++ ([(bjq43, .cells #[(ptr bdq6 0), (i64 (frOq40 : Int)), (i64 (30 : Int)), (u64 (newB Ls2q29 [])), vrq43, (i64 (roomB LW3 : Int))] 100 (0, 0))] ++ (Hrq43 ++ ([(bdq6, .cells #[vlq6, (Value.slice none 0 0)] 94 (0, 0))] ++ (Hl2q43 ++ ([]))))))) (H' := Hsq49) hm47 k_w48
             refine rw_q rfl (ev_move (v := (Value.tuple #[vq49, (bl ((lkA (openS LW3) (⟨#[107]⟩)).isSome))])) rfl) <| rw_q (v := vq49) rfl (ev_extract rfl rfl) <| rw_q (v := (bl ((lkA (openS LW3) (⟨#[107]⟩)).isSome))) rfl (ev_extract rfl rfl) <| rA rfl (v := vq49) rfl <| rw_q rfl (ev_assign (v := (bl ((lkA (openS LW3) (⟨#[107]⟩)).isSome))) rfl) <| rN ?_
             refine CW.abs (fun g => g 0 = vL ∧ g 1 = vo ∧ g 2 = (i64 ev) ∧ g 7 = (ptr bdq6 0) ∧ g 8 = (i64 0) ∧ g 9 = (ptr bsq43 0) ∧ g 10 = (i64 0) ∧ g 11 = (i64 (k : Int)) ∧ g 12 = (slv (rl.getD k sl0)) ∧ g 13 = vq49 ∧ g 14 = (bl ((lkA (openS LW3) (⟨#[107]⟩)).isSome)) ∧ g 18 = (bl false) ∧ g 26 = (bl (decide (100 < (os.length : Int)))) ∧ g 36 = (bl false) ∧ g 55 = (bl (((commitF 30 [[]] ([(PairT.mk (⟨#[111, 116, 104, 101, 114]⟩) (toSl vo os) false)])).1) != 0)) ∧ g 56 = vL ∧ g 57 = (i64 (rl.length : Int)) ∧ g 58 = (i64 (k : Int)) ∧ g 59 = (bl (decide ((k : Int) < (rl.length : Int)))) ∧ g 65 = (bl (decide (300 < (((rl.getD k sl0).2).length : Int)))) ∧ g 71 = (bl (((commitF 30 LW ([(PairT.mk (⟨#[107]⟩) (toSl (slv (rl.getD k sl0)) ((rl.getD k sl0).2)) false)])).1) != 0)) ∧ g 77 = (bl (((k : Int) % ((((BitVec.ofInt 64 ev).toNat &&& (7 : Int).toNat : Nat) : Int) + 1)) == 0)) ∧ g 91 = (bl false) ∧ True) ⟨s0, s1, s2, s7, s8, rfl, rfl, s11, s12, rfl, rfl, s18, s26, s36, s55, s56, s57, s58, s59, s65, s71, s77, rfl, trivial⟩ ?_
             rintro fr50 ⟨s0, s1, s2, s7, s8, s9, s10, s11, s12, s13, s14, s18, s26, s36, s55, s56, s57, s58, s59, s65, s71, s77, s91, _⟩
             refine sR <| rM rfl s9 <| rw_c rfl (opR_call Try.func47 bd47 nm47 (args2 rfl rfl) (c_sget bsq43 bjq43 bq43 (openS LW3) (⟨#[111, 116, 104, 101, 114]⟩) _ ((Mem.pick Hsq49 [_] _ hm48)).h0 (MapG.rdIn gmq43 (fun p hp => (hm48).own _ (List.mem_append_right _ (List.mem_append_right _ (List.mem_append_left _ hp)))) nN) hS3r.small sL)) ?_
             rintro _ w51 ⟨vq52, Hsq52, rfl, grq52, k_w51⟩
             have hm51 : Mem w51 (restOf w0) (Hsq52 ++ (Hsq49 ++ ([(bsq43, .cells #[(ptr bjq43 0), (Value.map (some bq43))] 118 (0, 0))] ++ (Hmq43 ++ ([(bjq43, .cells #[(ptr bdq6 0), (i64 (frOq40 : Int)), (i64 (30 : Int)), (u64 (newB Ls2q29 [])), vrq43, (i64 (roomB LW3 : Int))] 100 (0, 0))] ++ (Hrq43 ++ ([(bdq6, .cells #[vlq6, (Value.slice none 0 0)] 94 (0, 0))] ++ (Hl2q43 ++ ([]))))))))) := Mem.new (H := Hsq49 ++ ([(bsq43, .cells #[(ptr bjq43 0), (Value.map (some bq43))] 118 (0, 0))] ++ (Hmq43 ++ ([(bjq43, .cells #[(ptr bdq6 0), (i64 (frOq40 : Int)), (i64 (30 : Int)), (u64 (newB Ls2q29 [])), vrq43, (i64 (roomB LW3 : Int))] 100 (0, 0))] ++ (Hrq43 ++ ([(bdq6, .cells #[vlq6, (Value.slice none 0 0)] 94 (0, 0))] ++ (Hl2q43 ++ ([])))))))) (H' := Hsq52) hm48 k_w51
             refine rM rfl rfl <| rw_q (v := vq52) rfl (ev_extract rfl rfl) <| rw_q (v := (bl ((lkA (openS LW3) (⟨#[111, 116, 104, 101, 114]⟩)).isSome))) rfl (ev_extract rfl rfl) <| rA rfl (v := vq52) rfl <| rw_q rfl (ev_assign (v := (bl ((lkA (openS LW3) (⟨#[111, 116, 104, 101, 114]⟩)).isSome))) rfl) ?_
             refine rN (sR ?_)
             refine rM rfl s14 <| rw_q rfl (ev_not rfl) <| rw_q rfl (ev_move (v := (bl (!((lkA (openS LW3) (⟨#[107]⟩)).isSome)))) rfl) ?_
             have hd53 : ((lkA (openS LW3) (⟨#[107]⟩)).isSome) = true := (by rw [hlk.1]; rfl)
             have hd54 : (!((lkA (openS LW3) (⟨#[107]⟩)).isSome)) = false := congrArg Bool.not hd53
             refine rw_gyq (s := 104) rfl rfl hd54 rfl (ev_move (v := (bl ((lkA (openS LW3) (⟨#[111, 116, 104, 101, 114]⟩)).isSome))) rfl) <| rw_gyq (s := 104) rfl rfl hd54 rfl (ev_not rfl) <| rw_q rfl (ev_pick_fk rfl hd54 rfl) <| rw_q rfl (ev_move (v := (bl (!((lkA (openS LW3) (⟨#[111, 116, 104, 101, 114]⟩)).isSome)))) rfl) ?_
             have hd55 : ((lkA (openS LW3) (⟨#[111, 116, 104, 101, 114]⟩)).isSome) = true := (by rw [hlk.2]; rfl)
             have hd56 : (!((lkA (openS LW3) (⟨#[111, 116, 104, 101, 114]⟩)).isSome)) = false := congrArg Bool.not hd55
             refine rw_gyq (s := 108) rfl rfl hd56 rfl (ev_move s13) <| rw_gyq (s := 108) rfl rfl hd56 rfl (ev_move s12) <| rw_gy (s := 108) rfl rfl hd56 rfl (opR_call Try.func36 bd36 nm36 (args2 rfl rfl) (c_same vq49 (slv (rl.getD k sl0)) ((lkA (openS LW3) (⟨#[107]⟩)).getD []) ((rl.getD k sl0).2) _ (grq49.rd (Mem.pick Hsq52 Hsq49 _ hm51)) (RdL.get (k := k) (RdL.ofRest (R := (restOf w0)) hrl hm51) sL) sL)) ?_
             rintro _ w57 ⟨rfl, _ew57⟩
             have hm57 := hm51.ext _ew57
             refine rw_gyq (s := 108) rfl rfl hd56 rfl (ev_not rfl) <| rw_q rfl (ev_pick_fk rfl hd56 rfl) <| rw_q rfl (ev_move (v := (bl (!(((lkA (openS LW3) (⟨#[107]⟩)).getD []) == ((rl.getD k sl0).2))))) rfl) ?_
             have hd59 : (((lkA (openS LW3) (⟨#[107]⟩)).getD []) == ((rl.getD k sl0).2)) = true := (by rw [hlk.1]; exact beq_self_eq_true _)
             have hd60 : (!(((lkA (openS LW3) (⟨#[107]⟩)).getD []) == ((rl.getD k sl0).2))) = false := congrArg Bool.not hd59
             refine rw_gyq (s := 114) rfl rfl hd60 rfl (ev_move (v := vq52) rfl) <| rw_gyq (s := 114) rfl rfl hd60 rfl (ev_move s1) <| rw_gy (s := 114) rfl rfl hd60 rfl (opR_call Try.func36 bd36 nm36 (args2 rfl rfl) (c_same vq52 vo ((lkA (openS LW3) (⟨#[111, 116, 104, 101, 114]⟩)).getD []) os _ (grq52.rd hm57) (Rd.ofRest ho hm57) sL)) ?_
             rintro _ w61 ⟨rfl, _ew61⟩
             have hm61 := hm57.ext _ew61
             refine rw_gyq (s := 114) rfl rfl hd60 rfl (ev_not rfl) <| rw_q rfl (ev_pick_fk rfl hd60 rfl) <| rN ?_
             refine CW.abs (fun g => g 0 = vL ∧ g 1 = vo ∧ g 2 = (i64 ev) ∧ g 7 = (ptr bdq6 0) ∧ g 8 = (i64 0) ∧ g 9 = (ptr bsq43 0) ∧ g 10 = (i64 0) ∧ g 11 = (i64 (k : Int)) ∧ g 12 = (slv (rl.getD k sl0)) ∧ g 13 = vq49 ∧ g 14 = (bl ((lkA (openS LW3) (⟨#[107]⟩)).isSome)) ∧ g 15 = vq52 ∧ g 16 = (bl ((lkA (openS LW3) (⟨#[111, 116, 104, 101, 114]⟩)).isSome)) ∧ g 18 = (bl false) ∧ g 26 = (bl (decide (100 < (os.length : Int)))) ∧ g 36 = (bl false) ∧ g 55 = (bl (((commitF 30 [[]] ([(PairT.mk (⟨#[111, 116, 104, 101, 114]⟩) (toSl vo os) false)])).1) != 0)) ∧ g 56 = vL ∧ g 57 = (i64 (rl.length : Int)) ∧ g 58 = (i64 (k : Int)) ∧ g 59 = (bl (decide ((k : Int) < (rl.length : Int)))) ∧ g 65 = (bl (decide (300 < (((rl.getD k sl0).2).length : Int)))) ∧ g 71 = (bl (((commitF 30 LW ([(PairT.mk (⟨#[107]⟩) (toSl (slv (rl.getD k sl0)) ((rl.getD k sl0).2)) false)])).1) != 0)) ∧ g 77 = (bl (((k : Int) % ((((BitVec.ofInt 64 ev).toNat &&& (7 : Int).toNat : Nat) : Int) + 1)) == 0)) ∧ g 91 = (bl false) ∧ g 119 = (bl (!(((lkA (openS LW3) (⟨#[111, 116, 104, 101, 114]⟩)).getD []) == os))) ∧ True) ⟨s0, s1, s2, s7, s8, s9, s10, s11, s12, s13, s14, rfl, rfl, s18, s26, s36, s55, s56, s57, s58, s59, s65, s71, s77, s91, rfl, trivial⟩ ?_
             rintro fr63 ⟨s0, s1, s2, s7, s8, s9, s10, s11, s12, s13, s14, s15, s16, s18, s26, s36, s55, s56, s57, s58, s59, s65, s71, s77, s91, s119, _⟩
             have hd64 : (((lkA (openS LW3) (⟨#[111, 116, 104, 101, 114]⟩)).getD []) == os) = true := (by rw [hlk.2]; exact beq_self_eq_true _)
             have hd65 : (!(((lkA (openS LW3) (⟨#[111, 116, 104, 101, 114]⟩)).getD []) == os)) = false := congrArg Bool.not hd64
             refine cw_cond_f s119 hd65 ?_
             refine cw_skip (kBlk_normal (cw_region ?_))
             refine rw_q rfl (ev_i64_add (b := 1) s58 rfl oM oM) <| rw_q rfl (ev_move (v := (i64 ((k : Int) + 1))) rfl) <| rN ?_
             have hm66 := Mem.drop Hsq52 _ hm61
             have hm67 := Mem.drop Hsq49 _ hm66
             exact ⟨⟨(k + 1), bsq43, bjq43, bq43, Hmq43, frOq40, (newB Ls2q29 []), vrq43, rsq43, Hrq43, (openD Ls2q29 []), Hl2q43, LW3, oM, hJoq40, oM, hok3, hMq43, (.inr ⟨_, oM, hS3⟩), oM, gmq43, grq43, gl2q43, s0, s1, s2, s7, s8, s9, s18, s26, s36, s55, s56, s57, rfl, (by
               have hT := hm67
               try simp only [List.append_assoc, List.cons_append, List.nil_append, List.append_nil] at hT ⊢
               exact hT)⟩, meas (rfl) z58 oM oM⟩
           · -- false
             have hc35p := ne_of_beq_false hc35
             refine cw_skip (kThen_normal (sR ?_))
             refine rM rfl s9 <| rw_c rfl (opR_call Try.func47 bd47 nm47 (args2 rfl rfl) (c_sget bs1 bj1 b2q29 (openS LW3) (⟨#[107]⟩) _ hm33.h0 (MapG.rdIn hG30 (fun p hp => (hm33).own _ (List.mem_append_right _ (List.mem_append_left _ hp))) nN) hS3r.small sL)) ?_
             rintro _ w68 ⟨vq69, Hsq69, rfl, grq69, k_w68⟩
             have hm68 : Mem w68 (restOf w0) (Hsq69 ++ ([(bs1, .cells #[(ptr bj1 0), (Value.map (some b2q29))] 118 (0, 0))] ++ (Hm2q29 ++ ([(bj1, .cells #[(ptr bdq6 0), (i64 (fr2q29 : Int)), (i64 (30 : Int)), (u64 ge2q29), vr2q29, (i64 (roomB LW3 : Int))] 100 (0, 0))] ++ (Hr2q29 ++ ([(bdq6, .cells #[vlq6, (Value.slice none 0 0)] 94 (0, 0))] ++ (Hl2q29 ++ ([])))))))) := Mem.new (H := [(bs1, .cells #[(ptr bj1 0), (Value.map (some b2q29))] 118 (0, 0))] ++ (Hm2q29 ++ ([(bj1, .cells #[(ptr bdq6 0), (i64 (fr2q29 : Int)), (i64 (30 : Int)), (u64 ge2q29), vr2q29, (i64 (roomB LW3 : Int))] 100 (0, 0))] ++ (Hr2q29 ++ ([(bdq6, .cells #[vlq6, (Value.slice none 0 0)] 94 (0, 0))] ++ (Hl2q29 ++ ([]))))))) (H' := Hsq69) hm33 k_w68
             refine rw_q rfl (ev_move (v := (Value.tuple #[vq69, (bl ((lkA (openS LW3) (⟨#[107]⟩)).isSome))])) rfl) <| rw_q (v := vq69) rfl (ev_extract rfl rfl) <| rw_q (v := (bl ((lkA (openS LW3) (⟨#[107]⟩)).isSome))) rfl (ev_extract rfl rfl) <| rA rfl (v := vq69) rfl <| rw_q rfl (ev_assign (v := (bl ((lkA (openS LW3) (⟨#[107]⟩)).isSome))) rfl) ?_
             refine rN (sR ?_)
             refine rM rfl s9 <| rw_c rfl (opR_call Try.func47 bd47 nm47 (args2 rfl rfl) (c_sget bs1 bj1 b2q29 (openS LW3) (⟨#[111, 116, 104, 101, 114]⟩) _ ((Mem.pick Hsq69 [_] _ hm68)).h0 (MapG.rdIn hG30 (fun p hp => (hm68).own _ (List.mem_append_right _ (List.mem_append_right _ (List.mem_append_left _ hp)))) nN) hS3r.small sL)) ?_
             rintro _ w70 ⟨vq71, Hsq71, rfl, grq71, k_w70⟩
             have hm70 : Mem w70 (restOf w0) (Hsq71 ++ (Hsq69 ++ ([(bs1, .cells #[(ptr bj1 0), (Value.map (some b2q29))] 118 (0, 0))] ++ (Hm2q29 ++ ([(bj1, .cells #[(ptr bdq6 0), (i64 (fr2q29 : Int)), (i64 (30 : Int)), (u64 ge2q29), vr2q29, (i64 (roomB LW3 : Int))] 100 (0, 0))] ++ (Hr2q29 ++ ([(bdq6, .cells #[vlq6, (Value.slice none 0 0)] 94 (0, 0))] ++ (Hl2q29 ++ ([]))))))))) := Mem.new (H := Hsq69 ++ ([(bs1, .cells #[(ptr bj1 0), (Value.map (some b2q29))] 118 (0, 0))] ++ (Hm2q29 ++ ([(bj1, .cells #[(ptr bdq6 0), (i64 (fr2q29 : Int)), (i64 (30 : Int)), (u64 ge2q29), vr2q29, (i64 (roomB LW3 : Int))] 100 (0, 0))] ++ (Hr2q29 ++ ([(bdq6, .cells #[vlq6, (Value.slice none 0 0)] 94 (0, 0))] ++ (Hl2q29 ++ ([])))))))) (H' := Hsq71) hm68 k_w70
             refine rM rfl rfl <| rw_q (v := vq71) rfl (ev_extract rfl rfl) <| rw_q (v := (bl ((lkA (openS LW3) (⟨#[111, 116, 104, 101, 114]⟩)).isSome))) rfl (ev_extract rfl rfl) <| rA rfl (v := vq71) rfl <| rw_q rfl (ev_assign (v := (bl ((lkA (openS LW3) (⟨#[111, 116, 104, 101, 114]⟩)).isSome))) rfl) ?_
             refine rN (sR ?_)
             refine rw_q rfl (ev_move (v := (bl ((lkA (openS LW3) (⟨#[107]⟩)).isSome))) rfl) <| rw_q rfl (ev_not rfl) <| rw_q rfl (ev_move (v := (bl (!((lkA (openS LW3) (⟨#[107]⟩)).isSome)))) rfl) ?_
             have hd72 : ((lkA (openS LW3) (⟨#[107]⟩)).isSome) = true := (by rw [hlk.1]; rfl)
             have hd73 : (!((lkA (openS LW3) (⟨#[107]⟩)).isSome)) = false := congrArg Bool.not hd72
             refine rw_gyq (s := 104) rfl rfl hd73 rfl (ev_move (v := (bl ((lkA (openS LW3) (⟨#[111, 116, 104, 101, 114]⟩)).isSome))) rfl) <| rw_gyq (s := 104) rfl rfl hd73 rfl (ev_not rfl) <| rw_q rfl (ev_pick_fk rfl hd73 rfl) <| rw_q rfl (ev_move (v := (bl (!((lkA (openS LW3) (⟨#[111, 116, 104, 101, 114]⟩)).isSome)))) rfl) ?_
             have hd74 : ((lkA (openS LW3) (⟨#[111, 116, 104, 101, 114]⟩)).isSome) = true := (by rw [hlk.2]; rfl)
             have hd75 : (!((lkA (openS LW3) (⟨#[111, 116, 104, 101, 114]⟩)).isSome)) = false := congrArg Bool.not hd74
             refine rw_gyq (s := 108) rfl rfl hd75 rfl (ev_move (v := vq69) rfl) <| rw_gyq (s := 108) rfl rfl hd75 rfl (ev_move s12) <| rw_gy (s := 108) rfl rfl hd75 rfl (opR_call Try.func36 bd36 nm36 (args2 rfl rfl) (c_same vq69 (slv (rl.getD k sl0)) ((lkA (openS LW3) (⟨#[107]⟩)).getD []) ((rl.getD k sl0).2) _ (grq69.rd (Mem.pick Hsq71 Hsq69 _ hm70)) (RdL.get (k := k) (RdL.ofRest (R := (restOf w0)) hrl hm70) sL) sL)) ?_
             rintro _ w76 ⟨rfl, _ew76⟩
             have hm76 := hm70.ext _ew76
             refine rw_gyq (s := 108) rfl rfl hd75 rfl (ev_not rfl) <| rw_q rfl (ev_pick_fk rfl hd75 rfl) <| rw_q rfl (ev_move (v := (bl (!(((lkA (openS LW3) (⟨#[107]⟩)).getD []) == ((rl.getD k sl0).2))))) rfl) ?_
             have hd78 : (((lkA (openS LW3) (⟨#[107]⟩)).getD []) == ((rl.getD k sl0).2)) = true := (by rw [hlk.1]; exact beq_self_eq_true _)
             have hd79 : (!(((lkA (openS LW3) (⟨#[107]⟩)).getD []) == ((rl.getD k sl0).2))) = false := congrArg Bool.not hd78
             refine rw_gyq (s := 114) rfl rfl hd79 rfl (ev_move (v := vq71) rfl) <| rw_gyq (s := 114) rfl rfl hd79 rfl (ev_move s1) <| rw_gy (s := 114) rfl rfl hd79 rfl (opR_call Try.func36 bd36 nm36 (args2 rfl rfl) (c_same vq71 vo ((lkA (openS LW3) (⟨#[111, 116, 104, 101, 114]⟩)).getD []) os _ (grq71.rd hm76) (Rd.ofRest ho hm76) sL)) ?_
             rintro _ w80 ⟨rfl, _ew80⟩
             have hm80 := hm76.ext _ew80
             refine rw_gyq (s := 114) rfl rfl hd79 rfl (ev_not rfl) <| rw_q rfl (ev_pick_fk rfl hd79 rfl) <| rN ?_
             refine CW.abs (fun g => g 0 = vL ∧ g 1 = vo ∧ g 2 = (i64 ev) ∧ g 7 = (ptr bdq6 0) ∧ g 8 = (i64 0) ∧ g 9 = (ptr bs1 0) ∧ g 11 = (i64 (k : Int)) ∧ g 12 = (slv (rl.getD k sl0)) ∧ g 13 = vq69 ∧ g 14 = (bl ((lkA (openS LW3) (⟨#[107]⟩)).isSome)) ∧ g 15 = vq71 ∧ g 16 = (bl ((lkA (openS LW3) (⟨#[111, 116, 104, 101, 114]⟩)).isSome)) ∧ g 18 = (bl false) ∧ g 26 = (bl (decide (100 < (os.length : Int)))) ∧ g 36 = (bl false) ∧ g 55 = (bl (((commitF 30 [[]] ([(PairT.mk (⟨#[111, 116, 104, 101, 114]⟩) (toSl vo os) false)])).1) != 0)) ∧ g 56 = vL ∧ g 57 = (i64 (rl.length : Int)) ∧ g 58 = (i64 (k : Int)) ∧ g 59 = (bl (decide ((k : Int) < (rl.length : Int)))) ∧ g 65 = (bl (decide (300 < (((rl.getD k sl0).2).length : Int)))) ∧ g 71 = (bl (((commitF 30 LW ([(PairT.mk (⟨#[107]⟩) (toSl (slv (rl.getD k sl0)) ((rl.getD k sl0).2)) false)])).1) != 0)) ∧ g 77 = (bl (((k : Int) % ((((BitVec.ofInt 64 ev).toNat &&& (7 : Int).toNat : Nat) : Int) + 1)) == 0)) ∧ g 119 = (bl (!(((lkA (openS LW3) (⟨#[111, 116, 104, 101, 114]⟩)).getD []) == os))) ∧ True) ⟨s0, s1, s2, s7, s8, s9, s11, s12, rfl, rfl, rfl, rfl, s18, s26, s36, s55, s56, s57, s58, s59, s65, s71, s77, rfl, trivial⟩ ?_
             rintro fr82 ⟨s0, s1, s2, s7, s8, s9, s11, s12, s13, s14, s15, s16, s18, s26, s36, s55, s56, s57, s58, s59, s65, s71, s77, s119, _⟩
             have hd83 : (((lkA (openS LW3) (⟨#[111, 116, 104, 101, 114]⟩)).getD []) == os) = true := (by rw [hlk.2]; exact beq_self_eq_true _)
             have hd84 : (!(((lkA (openS LW3) (⟨#[111, 116, 104, 101, 114]⟩)).getD []) == os)) = false := congrArg Bool.not hd83
             refine cw_cond_f s119 hd84 ?_
             refine cw_skip (kBlk_normal (cw_region ?_))
             refine rw_q rfl (ev_i64_add (b := 1) s58 rfl oM oM) <| rw_q rfl (ev_move (v := (i64 ((k : Int) + 1))) rfl) <| rN ?_
             have hm85 := Mem.drop Hsq71 _ hm80
             have hm86 := Mem.drop Hsq69 _ hm85
             exact ⟨⟨(k + 1), bs1, bj1, b2q29, Hm2q29, fr2q29, ge2q29, vr2q29, rs2q29, Hr2q29, Ls2q29, Hl2q29, LW3, oM, hJ3, oM, hok3, hM3, (.inr ⟨_, oM, hS3⟩), oM, hG30, gr2q29, gl2q29, s0, s1, s2, s7, s8, s9, s18, s26, s36, s55, s56, s57, rfl, (by
               have hT := hm86
               try simp only [List.append_assoc, List.cons_append, List.nil_append, List.append_nil] at hT ⊢
               exact hT)⟩, meas (rfl) z58 oM oM⟩
       · -- false
         have hc24p := of_decide_eq_false hc24
         refine cw_exit ?_
         refine kThen_exit (kThen_exit (kBlk_hit ?_))
         refine sR <| rw_q rfl (ev_assign (v := (bl true)) rfl) ?_
         refine rN (cw_ret ?_)
         refine fnPost_ret [(bl true)] ⟨rfl, trivial⟩ ?_
         exact ⟨rfl, Mem.below w0 hm23⟩


end Go.Proofs.Ytfbnhoolkajebaa
