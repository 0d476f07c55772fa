/- Records on a disk that are no pairs: plain law, and the law's walk. Conditions: none beyond those that each theorem states. -/
import Derived.Test.YtfbnhoolkajebaaSoN
import Derived.SizedLaws
namespace Go.Proofs.Ytfbnhoolkajebaa
set_option linter.unusedVariables false
set_option linter.unusedSimpArgs false
/-! Records that were laid on a blank disk. -/
theorem raw_part {ls B : List (List (BitVec 8))} (hls : ∀ x ∈ ls, x.length = 64) (hB : ∀ x ∈ B, x.length = 64) (hl : ls.length = B.length) {k : Nat} (hk : k ≤ B.length) (hr : ∀ j, k ≤ j → B.getD j [] = ls.getD j []) : crashB ls (rawK ls B k) [1#8] = B := by
  rw [sync_eq hls (rawK_b hB _ hk)]
  apply List.ext_getElem
  · rw [syncF_len, hl]
  intro j h1 h2
  rw [el_getD (d := []) h1, el_getD (d := []) h2, raw_sync hl _ hk]
  split
  · rfl
  · rw [hr j oM]
theorem rawK_R {ls B L : List (List (BitVec 8))} : [] = rawK ls B (roomB (L.take 0)) := rfl
def badD (LW : List (List (BitVec 8))) : List (List (BitVec 8)) := layD (blank 120) 0 1#64 LW LW.length
section
variable {LW : List (List (BitVec 8))}
theorem blank_n (n : Nat) : (blank n).length = n := by unfold blank; simp
theorem badD_len : (badD LW).length = 120 := by unfold badD; rw [layD_len, blank_n]
variable (hr : roomB LW ≤ 60)
include hr
theorem badD_at {j k : Nat} (hj : j < LW.length) (hk : k < blocksN (LW.getD j []).length) : (badD LW).getD (roomB (LW.take j) + k) [] = blkOf 1#64 (BitVec.ofInt 64 (j : Int)) (blocksN (LW.getD j []).length) (LW.getD j []) k := by
  have := (layD_at (b := blank 120) (fr := 0) (g := 1#64) (L := LW) (by rw [blank_n]; omega) LW.length (Nat.le_refl _)).1 j hj k hk
  rw [Nat.zero_add] at this; exact this
theorem badD_rest {p : Nat} (h : roomB LW ≤ p) : (badD LW).getD p [] = (blank 120).getD p [] :=
  (layD_at (b := blank 120) (fr := 0) (g := 1#64) (L := LW) (by rw [blank_n]; omega) LW.length (Nat.le_refl _)).2 p (by rw [List.take_length]; omega)
theorem badD_64 : ∀ x ∈ badD LW, x.length = 64 := fun x hx => by
  obtain ⟨p, hp, rfl⟩ := List.mem_iff_getElem.1 hx
  have hp2 : p < 120 := by rw [← badD_len (LW := LW)]; exact hp
  rw [el_getD (d := []) hp]
  by_cases h : p < roomB LW
  · obtain ⟨j, k, hj, hk, e⟩ := room_find h
    rw [e, badD_at hr hj hk]; exact blkOf_len
  · rw [badD_rest hr oM]
    exact blank_len (n := 120) _ (getD_mem (by rw [blank_n]; exact hp2))
theorem badD_JI (hp : 0 < LW.length) : JI (badD LW) 0 60 1#64 LW where
  half := .inl rfl
  len := by rw [badD_len]
  small := by decide
  room := hr
  pos := hp
  g1 := by decide
  g2 := by decide
  laid := fun j hj k hk => by rw [Nat.zero_add]; exact badD_at hr hj hk
  all := badD_64 hr
  rest := fun p hl hn => by
    rw [badD_rest hr oM]
    exact (blank_G 120 _ (getD_mem (by rw [blank_n]; rw [badD_len] at hl; exact hl))).2
end
/-- Is one of the first records no row of pairs? -/
def badS (L : List (List (BitVec 8))) (k : Nat) : Bool := !okS (L.take k)
section
variable {L : List (List (BitVec 8))} {k : Nat}
theorem badS_0 : false = badS L 0 := rfl
theorem take_getD' (h : k < L.length) : L.take (k + 1) = L.take k ++ [L.getD k []] := by
  rw [List.take_add_one, List.getElem?_eq_getElem h]; simp [List.getD_eq_getElem?_getD, h]
theorem badS_t (hk : k < L.length) (h : badS L k = true) : true = badS L (k + 1) := by
  unfold badS at h ⊢
  rw [take_getD' hk, okS_app]
  cases h1 : okS (L.take k) with
  | true => rw [h1] at h; cases h
  | false => rfl
theorem badS_f (hk : k < L.length) (h : badS L k = false) : (decE (L.getD k []) != 0) = badS L (k + 1) := by
  unfold badS at h ⊢
  rw [take_getD' hk, okS_app]
  cases h1 : okS (L.take k) with
  | false => rw [h1] at h; cases h
  | true =>
    unfold decE
    cases h2 : (decP (L.getD k [])).isSome with
    | true => rfl
    | false => rfl
theorem badS_all : badS L L.length = !okS L := by unfold badS; rw [List.take_length]
end
theorem RdH.weak {m0 : Nat → Option Obj} {Hs Hs' : List (Nat × Obj)} {v : Value} {ps : List PairT} (h : RdH m0 Hs v ps) (hs : ∀ q ∈ Hs, q ∈ Hs') : RdH m0 Hs' v ps := fun m h1 h0 => h m (fun q hq => h1 q (hs q hq)) h0
theorem RdH.three {m0 : Nat → Option Obj} {Hs He Hv : List (Nat × Obj)} {v : Value} {ps : List PairT} (h : RdH m0 (Hs ++ Hv) v ps) : RdH m0 (Hs ++ (He ++ Hv)) v ps := h.weak fun q hq => by
  rcases List.mem_append.1 hq with hq | hq
  · exact List.mem_append_left _ hq
  · exact List.mem_append_right _ (List.mem_append_right _ hq)
theorem ElP.three {Hs He Hv : List (Nat × Obj)} {ps lp qs : List PairT} (h : ElP Hv ps) (hl : ElP He lp) (hq : ∀ a ∈ qs, (a ∈ ps ∨ a ∈ lp) ∧ a.gone = false) : ElP (Hs ++ (He ++ Hv)) qs := fun a ha m hm => by
  rcases (hq a ha).1 with h1 | h1
  · exact h a h1 m fun q hq => hm q (List.mem_append_right _ (List.mem_append_right _ hq))
  · exact hl a h1 m fun q hq => hm q (List.mem_append_right _ (List.mem_append_left _ hq))
theorem gone_all {ps lp qs : List PairT} (hq : ∀ a ∈ qs, (a ∈ ps ∨ a ∈ lp) ∧ a.gone = false) : ∀ a ∈ qs, a.gone = false := fun a ha => (hq a ha).2
theorem rec_len {LW : List (List (BitVec 8))} (hr : roomB LW ≤ 60) {k : Nat} (hk : k < LW.length) : (LW.getD k []).length ≤ 2520 := by
  have hm : LW.getD k [] ∈ LW := getD_mem hk
  have h1 : blocksN (LW.getD k []).length ≤ roomB LW := by
    unfold roomB
    exact le_sum_mem (List.mem_map.2 ⟨_, hm, rfl⟩)
  have := blocks_len (n := (LW.getD k []).length) (m := 60) oM
  omega
theorem do_next {L : List (List (BitVec 8))} {k : Nat} {ps qs lp : List PairT} (hS : ps.map kvOf = openK L k) (hl : lp.map oneOf = decV (L.getD k [])) (hq : qs.map kvOf = doK (ps.map kvOf) lp lp.length) : qs.map kvOf = openK L (k + 1) := by
  rw [hq, doK_all, hl, hS]; rfl
open Go.ChangeShapes Go.WideShapes Go.ChangeAt Go.RowKit
/-! How long an argument's rows are at most. -/
section
variable {P : Program} {W : World} {t e u : TypeId} {H : Type} {enc : TypeId × Value → H} {d : DataW H} {ps : List MemPlace} {v : Value} {l : List SlT}
theorem mem_weightsAll : ∀ {ds : List (DataW H)} {d : DataW H} {n : Nat}, d ∈ ds → n ∈ d.weights P e → n ∈ DataW.weightsAll P e ds
  | d0 :: ds, d, n, hd, hn => by
    unfold DataW.weightsAll
    rcases List.mem_cons.1 hd with rfl | hd
    · exact List.mem_append_left _ hn
    · exact List.mem_append_right _ (mem_weightsAll hd hn)
theorem lens_sized (hu : P.underlying t = some (.slice e)) (hue : P.underlying e = some (.slice u)) (hub : P.bytesOf u = 1) (hc : P.cellsOf e = 1) (hRd : Rd (blks W) slv v l) (hel : ∀ p ∈ l, Rd (blks W) u8 (slv p) p.2)
    (h : DataW.Trod enc P W 0 (fun _ => true) true t v d ps) (hw : ∀ n ∈ d.weights P t, n ≤ reachBytes) : ∀ p ∈ l, p.2.length ≤ 140737488355328 := by
  obtain ⟨fuel, hf⟩ := h
  obtain ⟨a0, cap0, rfl, hle0, hc0⟩ := hRd.is
  have hcs : (Value.slice a0 l.length cap0).cells.toList = [.slice a0 l.length cap0] := rfl
  rw [hcs] at hf
  rcases DataW.trod_slice hu hf with ⟨e1, _⟩ | ⟨a, len, cap, elems, rest, m, _, e1, e2, _, hl, hm, hlen, hel2, _, _⟩
  · injection e1 with e1 _
    injection e1 with _ e3 _
    intro p hp
    rw [List.length_eq_zero_iff.1 e3] at hp; cases hp
  · injection e1 with e1 _
    injection e1 with ea el ec
    subst ea
    have ed : d = .slice (elems.map (·.1)) (rest.map (·.1)) := congrArg Prod.fst e2
    intro p hp
    obtain ⟨i, hi, rfl⟩ := List.mem_iff_getElem.1 hp
    have h1 := hel2 i oM
    rw [hc, Nat.mul_one, List.getElem?_eq_getElem oM] at h1
    obtain ⟨cs', h2, h3⟩ := Option.bind_eq_some_iff.1 h1
    obtain ⟨v', h4, rfl⟩ := cells_of_one h2
    obtain ⟨b, off, c, E, fz, eb, hb, hcc⟩ := hc0 i hi
    injection eb with eb
    subst eb
    obtain ⟨hs, c', E', fz', hb', hcc'⟩ := cell_some h4
    rw [add_none] at hb' hcc'
    have hbb : W.heap[b]? = some (.cells c E fz) := hb
    have hb2 : W.heap[b]? = some (.cells c' E' fz') := hb'
    rw [hbb] at hb2
    cases hb2
    have hv : v' = slv l[i] := Option.some.inj (hcc'.symm.trans hcc)
    subst hv
    obtain ⟨a1, cap1, es, _, _⟩ := (hel _ (List.getElem_mem hi)).is
    rcases DataW.trod_slice hue h3 with ⟨e5, _⟩ | ⟨a2, len2, cap2, elems2, rest2, m2, _, e5, e6, _, _, _, hlen2, _, _, _⟩
    · injection e5 with e5 _
      rw [es] at e5
      injection e5 with _ e7 _
      omega
    · injection e5 with e5 _
      rw [es] at e5
      injection e5 with _ e7 _
      have hd1 : (elems[i]'oM).1 = .slice (elems2.map (·.1)) (rest2.map (·.1)) := congrArg Prod.fst e6
      have hn : (elems2.length + rest2.length) * P.bytesOf u ∈ (elems[i]'oM).1.weights P e := by
        rw [hd1]
        unfold DataW.weights
        rw [hue]
        simp
      have hmem : (elems2.length + rest2.length) * P.bytesOf u ∈ d.weights P t := by
        rw [ed]
        unfold DataW.weights
        rw [hu]
        refine List.mem_cons_of_mem _ (List.mem_append_left _ (mem_weightsAll (List.mem_map.2 ⟨_, List.getElem_mem oM, rfl⟩) hn))
      have := hw _ hmem
      rw [hub] at this
      have hrb : reachBytes ≤ 140737488355328 := by decide
      omega
end
attribute [local irreducible] crashB crashK pushB readB inB errB cutN seenW
attribute [local irreducible] markB putB getB getK partB placeF blkOf rawB writeK blocksN
attribute [local irreducible] mostK newB roomB
attribute [local irreducible] recB recF recN genF badB lastP dataB gOf rOf pOf nOf loopH readH
attribute [local irreducible] okP layK turnL turnP oldB
attribute [local irreducible] openD
attribute [local irreducible] natB tkN tkOk kN vN_ oneOk oneR decF decP decV decE rightB encK recP num2 num4 allR goneB encV encE encL encS doO openK openS okS doK commitF lkA keysB
attribute [local irreducible] badD badS
set_option maxHeartbeats 2000000 in
theorem law_sbad (vL : Value) (rl : List SlT) (w0 : World)  (hrl : RdL (blks w0) vL rl) (hre : ∀ p ∈ rl, p.2.length ≤ 140737488355328) (hrn : rl.length ≤ 9223372036854775807) : CallsR Try.prog 8 #[vL] w0 (fun r w1 => r = bl true ∧ RowKit.Below w0.heap.size w0 w1) := by
 refine callsR_of_cw (args := [vL]) Try.func8 rfl Try.ntmps8 Try.results8 rfl ?_
 have hm0 : Mem w0 (restOf w0) [] := Mem.of_world w0
 refine sR <| rw_q rfl (ev_assign (v := (bl false)) rfl) ?_
 refine rN (cw_seq (sR ?_))
 refine rw_c rfl (opR_call Try.func30 bd30 nm30 (args0) (c_speaks16 _)) ?_
 rintro _ w1 ⟨rfl, _ew1⟩
 have hm1 := hm0.ext _ew1
 refine rw_q (v := (bl false)) rfl (ev_not (b := true) rfl) <| rN <| cw_cond_f rfl (by decide) ?_
 refine cw_skip (kThen_normal (cw_seq (sR ?_)))
 refine rM rfl (v := vL) rfl <| rw_q (v := (i64 (rl.length : Int))) rfl (ev_len_rd (RdL.row (RdL.ofRest (R := (restOf w0)) hrl hm1)) uT22 rfl) <| rw_q rfl (ev_i64_eql (b := 0) rfl rfl) <| rw_q rfl (ev_move (v := (bl ((rl.length : Int) == 0))) rfl) ?_
 rcases Bool.eq_false_or_eq_true ((rl.length : Int) == 0) with hb3 | hb3
 · -- true
   have hb3p := eq_of_beq hb3
   refine rw_gn (s := 21) rfl rfl hb3 rfl <| rw_gn (s := 21) rfl rfl hb3 rfl <| rw_gn (s := 21) rfl rfl hb3 rfl <| rw_q rfl (ev_pick_tk rfl hb3 rfl) <| rw_q rfl (ev_move (v := (bl true)) rfl) <| rw_gn (s := 26) rfl rfl rfl rfl ?_
   refine rw_gn (s := 26) rfl rfl rfl rfl <| rw_gn (s := 26) rfl rfl rfl rfl <| rw_q rfl (ev_pick_t rfl rfl) <| rN <| cw_cond_t rfl (by decide) <| sR ?_
   refine rw_q rfl (ev_assign (v := (bl true)) rfl) <| rN ?_
   refine CW.abs (fun g => g 0 = vL ∧ g 2 = (bl true) ∧ g 17 = (bl false) ∧ g 30 = (bl true) ∧ True) ⟨rfl, rfl, rfl, rfl, trivial⟩ ?_
   rintro fr4 ⟨s0, s2, s17, s30, _⟩
   refine cw_ret (kThen_ret ?_)
   refine fnPost_ret [(bl true)] ⟨s2, trivial⟩ ?_
   exact ⟨rfl, Mem.below w0 hm1⟩
 · -- false
   have hb3p := ne_of_beq_false hb3
   refine rw_gyq (s := 21) rfl rfl hb3 rfl (ev_move (v := vL) rfl) <| rw_gyq (s := 21) rfl rfl hb3 rfl (ev_len_rd (RdL.row (RdL.ofRest (R := (restOf w0)) hrl hm1)) uT22 rfl) <| rw_gyq (s := 21) rfl rfl hb3 rfl (ev_i64_gtr (b := 10) rfl rfl) <| rw_q rfl (ev_pick_fk rfl hb3 rfl) <| rw_q rfl (ev_move (v := (bl (decide (10 < (rl.length : Int))))) rfl) ?_
   rcases Bool.eq_false_or_eq_true (decide (10 < (rl.length : Int))) with hb5 | hb5
   · -- true
     have hb5p := of_decide_eq_true hb5
     refine rw_gn (s := 26) rfl rfl hb5 rfl <| rw_gn (s := 26) rfl rfl hb5 rfl <| rw_gn (s := 26) rfl rfl hb5 rfl <| rw_q rfl (ev_pick_tk rfl hb5 rfl) <| rN <| cw_cond_t rfl (by decide) ?_
     refine sR <| rw_q rfl (ev_assign (v := (bl true)) rfl) <| rN ?_
     refine CW.abs (fun g => g 0 = vL ∧ g 2 = (bl true) ∧ g 17 = (bl false) ∧ g 30 = (bl true) ∧ True) ⟨rfl, rfl, rfl, rfl, trivial⟩ ?_
     rintro fr6 ⟨s0, s2, s17, s30, _⟩
     refine cw_ret (kThen_ret ?_)
     refine fnPost_ret [(bl true)] ⟨s2, trivial⟩ ?_
     exact ⟨rfl, Mem.below w0 hm1⟩
   · -- false
     have hb5p := of_decide_eq_false hb5
     refine rw_gyq (s := 26) rfl rfl hb5 rfl (ev_move (v := vL) rfl) <| rw_gy (s := 26) rfl rfl hb5 rfl (opR_call Try.func20 bd20 nm20 (args1 rfl) (c_rroom vL rl _ (RdL.ofRest (R := (restOf w0)) hrl hm1) sL hre)) ?_
     rintro _ w7 ⟨rfl, _ew7⟩
     have hm7 := hm1.ext _ew7
     refine rw_gyq (s := 26) rfl rfl hb5 rfl (ev_i64_gtr (b := 60) rfl rfl) <| rw_q rfl (ev_pick_fk rfl hb5 rfl) <| rN ?_
     refine cw_cond rfl (fun hc9 => ?_) (fun hc9 => ?_)
     · -- true
       have hc9p := of_decide_eq_true hc9
       refine sR <| rw_q rfl (ev_assign (v := (bl true)) rfl) <| rN ?_
       refine CW.abs (fun g => g 0 = vL ∧ g 2 = (bl true) ∧ g 17 = (bl false) ∧ g 30 = (bl (decide (60 < (roomB (rl.map (·.2)) : Int)))) ∧ True) ⟨rfl, rfl, rfl, rfl, trivial⟩ ?_
       rintro fr10 ⟨s0, s2, s17, s30, _⟩
       refine cw_ret (kThen_ret ?_)
       refine fnPost_ret [(bl true)] ⟨s2, trivial⟩ ?_
       exact ⟨rfl, Mem.below w0 hm7⟩
     · -- false
       have hc9p := of_decide_eq_false hc9
       obtain ⟨LW, hLW⟩ : ∃ q, q = rl.map (·.2) := ⟨_, rfl⟩
       have h1g : (1#64).toNat = 1 := rfl
       have hrL : roomB LW ≤ 60 := by rw [hLW]; omega
       have hlL := congrArg List.length hLW; rw [List.length_map] at hlL
       have hposL : 0 < LW.length := by omega
       have hBJ := badD_JI hrL hposL
       have hBl : (badD LW).length = 120 := badD_len
       have hB64 := badD_64 hrL
       refine cw_skip (kThen_normal (sR ?_))
       refine rw_c rfl (opR_call Try.func13 bd13 nm13 (args1 rfl) (c_dnew (120 : Int) _ sL)) ?_
       rintro _ w11 ⟨bdq12, vlq12, Hlq12, rfl, glq12, k_w11⟩
       have hm11 : Mem w11 (restOf w0) ([(bdq12, .cells #[vlq12, (Value.slice none 0 0)] 94 (0, 0))] ++ (Hlq12 ++ ([]))) := (by
         have hT := Mem.new (H := []) (H' := _) hm7 k_w11
         try simp only [List.append_assoc, List.cons_append, List.nil_append, List.append_nil] at hT ⊢
         exact hT)
       have hbl0 : List.replicate (120 : Int).toNat (List.replicate 64 0) = blank 120 := rfl
       obtain ⟨L0, hL0⟩ : ∃ q : List (List (BitVec 8)), q = (List.replicate (120 : Int).toNat (List.replicate 64 0)) := ⟨_, rfl⟩
       have hL0l : L0.length = 120 := by rw [hL0, hbl0]; simp
       have gg13 : GrowK (encA u8) 64 83 vlq12 L0 Hlq12 := GrowK.cast glq12 (hL0.symm)
       rw [hbl0] at hL0
       obtain ⟨hbJ, hbn⟩ := blank_JI (n := 120) oM oM
       rw [← hL0] at hbJ hbn
       have hn0 := new_le (ls := L0) (by rw [hL0]; exact blank_G _) (by decide)
       have hob0 : oldB L0 [] = ((L0.length : Int) / 2, [[]]) := by rw [hL0]; exact blank_old
       have hodl0 : (openD L0 []).length = L0.length := openD_len
       refine rw_q rfl (ev_move (v := (Value.tuple #[(ptr bdq12 0), (i64 0)])) rfl) <| rw_q (v := (ptr bdq12 0)) rfl (ev_extract rfl rfl) <| rw_q (v := (i64 0)) rfl (ev_extract rfl rfl) <| rw_q rfl (ev_assign (v := (ptr bdq12 0)) rfl) <| rw_q rfl (ev_assign (v := (i64 0)) rfl) <| rN ?_
       refine CW.abs (fun g => g 0 = vL ∧ g 2 = (bl false) ∧ g 3 = (ptr bdq12 0) ∧ g 4 = (i64 0) ∧ g 17 = (bl false) ∧ g 30 = (bl (decide (60 < (roomB (rl.map (·.2)) : Int)))) ∧ True) ⟨rfl, rfl, rfl, rfl, rfl, rfl, trivial⟩ ?_
       rintro fr14 ⟨s0, s2, s3, s4, s17, s30, _⟩
       refine cw_seq (sR ?_)
       refine rM rfl s4 <| rw_q rfl (ev_i64_neq (b := 0) rfl rfl) <| rw_q rfl (ev_move (v := (bl (0 != 0))) rfl) ?_
       have hd15 : (0 != 0) = false := told_ne rfl
       refine rw_gyq (s := 37) rfl rfl hd15 rfl (ev_move s3) <| rw_gyq (s := 37) rfl rfl hd15 rfl (ev_ptr_nil_eql uT25 rfl rfl) <| rw_q rfl (ev_pick_fk rfl hd15 rfl) <| rN <| cw_cond_f rfl (by decide) ?_
       refine cw_skip (kThen_normal (sR ?_))
       refine rw_q rfl (ev_assign (v := (i64 0)) rfl) <| rw_q rfl (ev_assign (v := (bl false)) rfl) ?_
       refine rN (sR ?_)
       refine rw_c rfl (or_buildSlice_p (c := #[]) hm11 uT55 ti79 rfl pm_nil (by kernel_rfl)) ?_
       rintro _ w16 ⟨b41, rfl, _ew16, hm16⟩
       have hm16 : Mem w16 (restOf w0) ([(b41, .cells #[] 79 (0, 0)), (bdq12, .cells #[vlq12, (Value.slice none 0 0)] 94 (0, 0))] ++ (Hlq12 ++ ([]))) := hm16
       refine rw_q rfl (ev_assign (v := (slc b41 0 0 0)) rfl) ?_
       refine rN (cw_seq (sR ?_))
       refine rM rfl s0 <| rw_q (v := (i64 (rl.length : Int))) rfl (ev_len_rd (RdL.row (RdL.ofRest (R := (restOf w0)) hrl hm16)) uT22 rfl) <| rw_q rfl (ev_move (v := (i64 0)) rfl) ?_
       refine rN (cw_block ?_)
       refine cw_loop (fun g wv => ∃ (k : Nat) (vk : Value) (Hk : List (Nat × Obj)) (vv : Value) (ps : List PairT) (Hv : List (Nat × Obj)), (k ≤ rl.length) ∧ (ps.length ≤ 2520 * k) ∧ (GrowK encW 65 104 vk (rawK L0 (badD LW) (roomB (LW.take k))) Hk) ∧ (RdH mN Hv vv ps) ∧ (ElP Hv ps) ∧ (∀ a ∈ ps, a.gone = false) ∧ (ps.map kvOf = openK LW k) ∧ g 0 = vL ∧ g 2 = (bl false) ∧ g 3 = (ptr bdq12 0) ∧ g 4 = (i64 0) ∧ g 5 = (i64 ((roomB (LW.take k)) : Int)) ∧ g 6 = (bl (badS LW k)) ∧ g 7 = vv ∧ g 17 = (bl false) ∧ g 30 = (bl (decide (60 < (roomB (rl.map (·.2)) : Int)))) ∧ g 40 = (bl false) ∧ g 42 = vL ∧ g 43 = (i64 (rl.length : Int)) ∧ g 44 = (i64 (k : Int)) ∧ Mem wv (restOf w0) ([(bdq12, .cells #[vlq12, vk] 94 (0, 0))] ++ (Hlq12 ++ (Hk ++ (Hv ++ ([])))))) (fun g wv => ((rl.length : Int) - RowKit.intOf (g 44)).toNat) ?_ ?_
       have hm17 := (Mem.pick [_, _] Hlq12 _ hm16)
       have hm18 := (Mem.pick2 Hlq12 [_] [_] _ hm17)
       · exact ⟨0, (.slice none 0 0), [], (slc b41 0 0 0), [], [(b41, .cells #[] 79 (0, 0))], (Nat.zero_le _), (Nat.le_refl _), (GrowK.cast (GrowK.none encW 65 104) rawK_R), RdH.empty, (fun a h => by cases h), (fun a h => by cases h), openK_0, s0, s2, s3, s4, (Eq.trans rfl (congrArg i64 room_0)), (Eq.trans rfl (congrArg bl badS_0)), rfl, s17, s30, rfl, rfl, rfl, rfl, (by
         have hT := hm18
         try simp only [List.append_assoc, List.cons_append, List.nil_append, List.append_nil] at hT ⊢
         exact hT)⟩
       · rintro fr19 w20 ⟨k, vk, Hk, vv, ps, Hv, hk, hpl, gk, hrv, hel, hg1, hkv, s0, s2, s3, s4, s5, s6, s7, s17, s30, s40, s42, s43, s44, hm20⟩
         have z5 := s5
         have z6 := s6
         have z7 := s7
         have z44 := s44
         refine sR <| rw_q rfl (ev_i64_lss s44 s43) ?_
         refine rN (cw_seq ?_)
         refine cw_cond rfl (fun hc21 => ?_) (fun hc21 => ?_)
         · -- true
           have hc21p := of_decide_eq_true hc21
           have hkL : k < LW.length := by omega
           have hbk : (rl.getD k sl0).2 = LW.getD k [] := by rw [hLW]; exact snd_getD rfl oM
           have hbl : (rl.getD k sl0).2.length ≤ 2520 := by rw [hbk]; exact rec_len hrL hkL
           have hrs := roomT_S hkL
           have hrt := roomT_le (L := LW) (k + 1)
           have hrw := rawK_len (ls := L0) (B := (badD LW)) (roomB (LW.take k))
           refine cw_skip (kThen_normal (cw_seq (cw_block (sR ?_))))
           refine rM rfl s44 <| rw_q rfl (ev_indexAddr_rdv (RdL.row (RdL.ofRest (R := (restOf w0)) hrl hm20)) uT22 ti23 s42 s44 oM sL) <| rw_q (v := (slv (rl.getD k sl0))) rfl (ev_load_rdD (l := rl) (i := (k : Int)) (dflt := sl0) (RdL.row (RdL.ofRest (R := (restOf w0)) hrl hm20)) uT23 rfl oM sL rfl) <| rw_q rfl (ev_assign (v := (i64 (k : Int))) rfl) <| rw_q rfl (ev_assign (v := (slv (rl.getD k sl0))) rfl) ?_
           refine rN (cw_seq (sR ?_))
           refine rw_q rfl (ev_move (v := (i64 (k : Int))) rfl) <| rw_q rfl (ev_move (v := (slv (rl.getD k sl0))) rfl) <| rw_c rfl (opR_call Try.func44 bd44 nm44 (args3 rfl rfl rfl) (c_rblocksF 1#64 k (slv (rl.getD k sl0)) ((rl.getD k sl0).2) _ (RdL.get (k := k) (RdL.ofRest (R := (restOf w0)) hrl hm20) sL) sL sL sL)) ?_
           rintro r1q23 w22 ⟨Hsq23, grq23, k_w22⟩
           have hm22 : Mem w22 (restOf w0) (Hsq23 ++ ([(bdq12, .cells #[vlq12, vk] 94 (0, 0))] ++ (Hlq12 ++ (Hk ++ (Hv ++ ([])))))) := Mem.new (H := [(bdq12, .cells #[vlq12, vk] 94 (0, 0))] ++ (Hlq12 ++ (Hk ++ (Hv ++ ([]))))) (H' := Hsq23) hm20 k_w22
           have hbd : ∀ i, i < (blocksN (rl.getD k sl0).2.length) → (blksD 1#64 (BitVec.ofInt 64 (k : Int)) (rl.getD k sl0).2).getD i [] = (badD LW).getD ((roomB (LW.take k)) + i) [] := fun i hi => by rw [blksD_at hi, hbk]; rw [hbk] at hi; exact (badD_at hrL hkL hi).symm
           have hbdl : (blksD 1#64 (BitVec.ofInt 64 (k : Int)) (rl.getD k sl0).2).length = (blocksN (rl.getD k sl0).2.length) := blksD_len
           refine rw_q (v := (i64 ((blksD 1#64 (BitVec.ofInt 64 (k : Int)) ((rl.getD k sl0).2)).length : Int))) rfl (ev_len_rk (grq23.rd hm22) uT40 rfl) <| rw_q rfl (ev_move (v := (i64 0)) rfl) ?_
           refine rN (cw_block ?_)
           refine cw_loop (fun g wv => ∃ (j : Nat) (vk2 : Value) (Hk2 : List (Nat × Obj)), (j ≤ (blocksN (rl.getD k sl0).2.length)) ∧ (GrowK encW 65 104 vk2 (rawK L0 (badD LW) ((roomB (LW.take k)) + j)) Hk2) ∧ g 0 = vL ∧ g 2 = (bl false) ∧ g 3 = (ptr bdq12 0) ∧ g 4 = (i64 0) ∧ g 5 = (i64 (((roomB (LW.take k)) + j : Nat) : Int)) ∧ g 6 = (bl (badS LW k)) ∧ g 7 = vv ∧ g 8 = (i64 (k : Int)) ∧ g 9 = (slv (rl.getD k sl0)) ∧ g 17 = (bl false) ∧ g 30 = (bl (decide (60 < (roomB (rl.map (·.2)) : Int)))) ∧ g 40 = (bl false) ∧ g 42 = vL ∧ g 43 = (i64 (rl.length : Int)) ∧ g 44 = (i64 (k : Int)) ∧ g 45 = (bl (decide ((k : Int) < (rl.length : Int)))) ∧ g 51 = r1q23 ∧ g 52 = (i64 ((blksD 1#64 (BitVec.ofInt 64 (k : Int)) ((rl.getD k sl0).2)).length : Int)) ∧ g 53 = (i64 (j : Int)) ∧ Mem wv (restOf w0) ([(bdq12, .cells #[vlq12, vk2] 94 (0, 0))] ++ (Hlq12 ++ (Hk2 ++ (Hsq23 ++ (Hv ++ ([]))))))) (fun g wv => (((blksD 1#64 (BitVec.ofInt 64 (k : Int)) (rl.getD k sl0).2).length : Int) - RowKit.intOf (g 53)).toNat) ?_ ?_
           have hm24 := (Mem.pick4 Hsq23 [_] Hlq12 Hk Hv _ hm22)
           have hm25 := (Mem.pick Hv Hsq23 _ hm24)
           have hm26 := (Mem.pick4 Hsq23 Hv [_] Hlq12 Hk _ hm25)
           have hm27 := (Mem.pick4 Hk Hsq23 Hv [_] Hlq12 _ hm26)
           have hm28 := (Mem.pick4 Hlq12 Hk Hsq23 Hv [_] _ hm27)
           · exact ⟨0, vk, Hk, (Nat.zero_le _), gk, s0, s2, s3, s4, s5, s6, s7, rfl, rfl, s17, s30, s40, s42, s43, s44, rfl, rfl, rfl, rfl, (by
             have hT := hm28
             try simp only [List.append_assoc, List.cons_append, List.nil_append, List.append_nil] at hT ⊢
             exact hT)⟩
           · rintro fr29 w30 ⟨j, vk2, Hk2, hj, gk2, s0, s2, s3, s4, s5, s6, s7, s8, s9, s17, s30, s40, s42, s43, s44, s45, s51, s52, s53, hm30⟩
             have z5 := s5
             have z53 := s53
             refine sR <| rw_q rfl (ev_i64_lss s53 s52) ?_
             refine rN (cw_seq ?_)
             refine cw_cond rfl (fun hc31 => ?_) (fun hc31 => ?_)
             · -- true
               have hc31p := of_decide_eq_true hc31
               have hjn : j < (blocksN (rl.getD k sl0).2.length) := by omega
               have hxe := hbd j hjn
               have hx64 : ((blksD 1#64 (BitVec.ofInt 64 (k : Int)) (rl.getD k sl0).2).getD j []).length = 64 := by rw [blksD_at hjn]; exact blkOf_len
               have hrw2 := rawK_len (ls := L0) (B := (badD LW)) ((roomB (LW.take k)) + j)
               have hrs3 : (blocksN (rl.getD k sl0).2.length) = blocksN (LW.getD k []).length := by rw [hbk]
               refine cw_skip (kThen_normal (cw_seq (cw_block (sR ?_))))
               refine rw_q rfl (ev_indexAddr_rk (i := (j : Int)) (grq23.rd (Mem.pick3 [_] Hlq12 Hk2 Hsq23 _ hm30)) uT40 ti83 s51 s53 oM sL) <| rw_q (v := (agg u8 ((blksD 1#64 (BitVec.ofInt 64 (k : Int)) ((rl.getD k sl0).2)).getD j []))) rfl (ev_load_rka (i := (j : Int)) (grq23.rd (Mem.pick3 [_] Hlq12 Hk2 Hsq23 _ hm30)) sL uT83 ti83 rfl rfl) <| rw_c rfl (or_alloc_agg hm30 ti83) ?_
               rintro _ w32 ⟨b11, rfl, _ew32, hm32⟩
               refine rw_n (or_store_agg (f := u8) (l := (blksD 1#64 (BitVec.ofInt 64 (k : Int)) ((rl.getD k sl0).2)).getD j []) u8_one ti83 rfl rfl sL hm32.h0 (by rw [size_cl]; first | omega | (simp only [List.length_set, List.length_append, List.length_replicate, List.length_map, List.length_cons, List.length_nil]; omega) | (simp; done) | (simp; omega) | decide) rfl) ?_
               rintro _ w33 uq33
               have hm33 := hm32.upd0 uq33
               refine rN (sR ?_)
               refine rM rfl s3 <| rM rfl s5 <| rw_q (v := (agg u8 ((blksD 1#64 (BitVec.ofInt 64 (k : Int)) ((rl.getD k sl0).2)).getD j []))) rfl (ev_loadA uT83 rfl ti83 rfl hm33.h0 (by rw [size_cl]; first | omega | (simp only [List.length_set, List.length_append, List.length_replicate, List.length_map, List.length_cons, List.length_nil]; omega) | (simp; done) | (simp; omega) | decide)) ?_
               have hF35 : Mem w33 (restOf w0) (([(bdq12, .cells #[vlq12, vk2] 94 (0, 0))] ++ (Hlq12 ++ (Hk2 ++ ([])))) ++ ([(b11, .cells (cl u8 ((blksD 1#64 (BitVec.ofInt 64 (k : Int)) ((rl.getD k sl0).2)).getD j [])) 83 (0, 0))] ++ (Hsq23 ++ (Hv ++ ([]))))) := by
                 have hT := (Mem.pick3 Hlq12 Hk2 [_] [_] _ (Mem.pick2 Hk2 [_, _] Hlq12 _ (Mem.pick2 [_, _] Hlq12 Hk2 _ hm33)))
                 try simp only [List.append_assoc, List.cons_append, List.nil_append, List.append_nil] at hT ⊢
                 exact hT
               refine rw_c rfl (opR_call Try.func45 bd45 nm45 (args3 rfl rfl rfl) (c_dwrite bdq12 vlq12 L0 Hlq12 vk2 (rawK L0 (badD LW) ((roomB (LW.take k)) + j)) Hk2 (((roomB (LW.take k)) + j : Nat) : Int) ((blksD 1#64 (BitVec.ofInt 64 (k : Int)) ((rl.getD k sl0).2)).getD j []) _ _ (Mem.give hF35) gg13 gk2 sL sL sL)) ?_
               rintro _ w34 ⟨vp2q36, Hp2q36, rfl, gp2q36, k_w34⟩
               have hm34 : Mem w34 (restOf w0) ([(bdq12, .cells #[vlq12, vp2q36] 94 (0, 0))] ++ (Hlq12 ++ (Hp2q36 ++ ([(b11, .cells (cl u8 ((blksD 1#64 (BitVec.ofInt 64 (k : Int)) ((rl.getD k sl0).2)).getD j [])) 83 (0, 0))] ++ (Hsq23 ++ (Hv ++ ([]))))))) := (by
                 have hT := Mem.back hF35 k_w34
                 try simp only [List.append_assoc, List.cons_append, List.nil_append, List.append_nil] at hT ⊢
                 exact hT)
               refine rN (cw_region ?_)
               refine rM rfl s5 <| rw_q rfl (ev_i64_add (b := 1) rfl rfl oM oM) <| rw_q rfl (ev_assign (v := (i64 ((((roomB (LW.take k)) + j : Nat) : Int) + 1))) rfl) ?_
               refine rw_nil (kBlk_normal (cw_region ?_))
               refine rw_q rfl (ev_i64_add (b := 1) s53 rfl oM oM) <| rw_q rfl (ev_move (v := (i64 ((j : Int) + 1))) rfl) <| rN ?_
               have hm37 := Mem.drop ([(b11, .cells (cl u8 ((blksD 1#64 (BitVec.ofInt 64 (k : Int)) ((rl.getD k sl0).2)).getD j [])) 83 (0, 0))]) _ (Mem.pick3 [_] Hlq12 Hp2q36 [_] _ hm34)
               exact ⟨⟨(j + 1), vp2q36, Hp2q36, oM, (GrowK.cast gp2q36 (by rw [hxe]; exact rawK_S)), s0, s2, s3, s4, (Eq.trans rfl (congrArg i64 (by push_cast; omega))), s6, s7, s8, s9, s17, s30, s40, s42, s43, s44, s45, s51, s52, rfl, (by
                 have hT := hm37
                 try simp only [List.append_assoc, List.cons_append, List.nil_append, List.append_nil] at hT ⊢
                 exact hT)⟩, meas (rfl) z53 oM oM⟩
             · -- false
               have hc31p := of_decide_eq_false hc31
               have hjn : j = (blocksN (rl.getD k sl0).2.length) := by omega
               have hat : (roomB (LW.take k)) + j = roomB (LW.take (k + 1)) := by rw [hrs, hjn, hbk]
               refine cw_exit ?_
               refine kThen_exit (kThen_exit (kBlk_hit ?_))
               refine sR <| rM rfl s9 <| rw_c rfl (opR_call Try.func35 bd35 nm35 (args1 rfl) (c_rdecode16 (slv (rl.getD k sl0)) ((rl.getD k sl0).2) _ (RdL.get (k := k) (RdL.ofRest (R := (restOf w0)) hrl hm30) sL) sL)) ?_
               rintro _ w38 ⟨vq39, psq39, Hoq39, Heq39, rfl, hMq39, grq39, heq39, k_w38⟩
               have hm38 : Mem w38 (restOf w0) (Hoq39 ++ (Heq39 ++ ([(bdq12, .cells #[vlq12, vk2] 94 (0, 0))] ++ (Hlq12 ++ (Hk2 ++ (Hsq23 ++ (Hv ++ ([])))))))) := (by
                 have hT := Mem.new (H := [(bdq12, .cells #[vlq12, vk2] 94 (0, 0))] ++ (Hlq12 ++ (Hk2 ++ (Hsq23 ++ (Hv ++ ([])))))) (H' := _) hm30 k_w38
                 try simp only [List.append_assoc, List.cons_append, List.nil_append, List.append_nil] at hT ⊢
                 exact hT)
               have hMd : psq39.map oneOf = decV (LW.getD k []) := by rw [← hbk]; exact hMq39
               have hos := ones_small hMq39 oM
               have hdl := congrArg List.length hMq39; rw [List.length_map] at hdl
               have hdv := (decV_el (rl.getD k sl0).2).2
               refine rw_q rfl (ev_move (v := (Value.tuple #[vq39, (i64 (decE ((rl.getD k sl0).2)))])) rfl) <| rw_q (v := vq39) rfl (ev_extract rfl rfl) <| rw_q (v := (i64 (decE ((rl.getD k sl0).2)))) rfl (ev_extract rfl rfl) <| rA rfl (v := vq39) rfl <| rw_q rfl (ev_assign (v := (i64 (decE ((rl.getD k sl0).2)))) rfl) ?_
               refine rN (sR ?_)
               refine rM rfl s6 <| rw_q rfl (ev_move (v := (bl (badS LW k))) rfl) ?_
               rcases Bool.eq_false_or_eq_true (badS LW k) with hb40 | hb40
               · -- true
                 refine rw_gn (s := 70) rfl rfl hb40 rfl <| rw_gn (s := 70) rfl rfl hb40 rfl <| rw_q rfl (ev_pick_tk rfl hb40 rfl) <| rw_q rfl (ev_assign (v := (bl true)) rfl) ?_
                 refine rN (cw_region ?_)
                 refine rM rfl s7 <| rM rfl (v := vq39) rfl <| rw_c rfl (opR_call Try.func40 bd40 nm40 (args2 rfl rfl) (c_rdo mN Hv vv ps vq39 psq39 _ nN (fun q hq => (hm38).own _ (List.mem_append_right _ (List.mem_append_right _ (List.mem_append_right _ (List.mem_append_right _ (List.mem_append_right _ (List.mem_append_right _ (List.mem_append_left _ hq)))))))) hrv (fun a ha => hel a ha _ (fun q hq => (hm38).own _ (List.mem_append_right _ (List.mem_append_right _ (List.mem_append_right _ (List.mem_append_right _ (List.mem_append_right _ (List.mem_append_right _ (List.mem_append_left _ hq))))))))) (grq39.rd hm38) (fun a ha => heq39 a ha _ (fun q hq => (hm38).own _ (List.mem_append_right _ (List.mem_append_left _ hq)))) hg1 sL)) ?_
                 rintro rq42 w41 ⟨psq42, Hsq42, hkvq42, hfrq42, hplq42, hrrq42, k_w41⟩
                 have hm41 : Mem w41 (restOf w0) (Hsq42 ++ (Hoq39 ++ (Heq39 ++ ([(bdq12, .cells #[vlq12, vk2] 94 (0, 0))] ++ (Hlq12 ++ (Hk2 ++ (Hsq23 ++ (Hv ++ ([]))))))))) := Mem.new (H := Hoq39 ++ (Heq39 ++ ([(bdq12, .cells #[vlq12, vk2] 94 (0, 0))] ++ (Hlq12 ++ (Hk2 ++ (Hsq23 ++ (Hv ++ ([])))))))) (H' := Hsq42) hm38 k_w41
                 have hkv1 := do_next hkv hMd hkvq42
                 have hpl1 := hplq42
                 have hel1 := ElP.three (Hs := Hsq42) hel heq39 hfrq42
                 have hg2 := gone_all hfrq42
                 have hrr1 := RdH.three (He := Heq39) hrrq42
                 refine rA rfl (v := rq42) rfl ?_
                 refine rw_nil (kBlk_normal ?_)
                 refine CW.abs (fun g => g 0 = vL ∧ g 2 = (bl false) ∧ g 3 = (ptr bdq12 0) ∧ g 4 = (i64 0) ∧ g 5 = (i64 (((roomB (LW.take k)) + j : Nat) : Int)) ∧ g 6 = (bl true) ∧ g 7 = rq42 ∧ g 8 = (i64 (k : Int)) ∧ g 9 = (slv (rl.getD k sl0)) ∧ g 12 = vq39 ∧ g 13 = (i64 (decE ((rl.getD k sl0).2))) ∧ g 17 = (bl false) ∧ g 30 = (bl (decide (60 < (roomB (rl.map (·.2)) : Int)))) ∧ g 40 = (bl false) ∧ g 42 = vL ∧ g 43 = (i64 (rl.length : Int)) ∧ g 44 = (i64 (k : Int)) ∧ g 45 = (bl (decide ((k : Int) < (rl.length : Int)))) ∧ g 51 = r1q23 ∧ g 52 = (i64 ((blksD 1#64 (BitVec.ofInt 64 (k : Int)) ((rl.getD k sl0).2)).length : Int)) ∧ g 53 = (i64 (j : Int)) ∧ g 54 = (bl (decide ((j : Int) < ((blksD 1#64 (BitVec.ofInt 64 (k : Int)) ((rl.getD k sl0).2)).length : Int)))) ∧ True) ⟨s0, s2, s3, s4, s5, rfl, rfl, s8, s9, rfl, rfl, s17, s30, s40, s42, s43, s44, s45, s51, s52, s53, rfl, trivial⟩ ?_
                 rintro fr43 ⟨s0, s2, s3, s4, s5, s6, s7, s8, s9, s12, s13, s17, s30, s40, s42, s43, s44, s45, s51, s52, s53, s54, _⟩
                 refine cw_region <| rw_q rfl (ev_i64_add (b := 1) s44 rfl oM oM) <| rw_q rfl (ev_move (v := (i64 ((k : Int) + 1))) rfl) <| rN ?_
                 have hm44 := Mem.drop Hoq39 _ (Mem.pick Hsq42 Hoq39 _ hm41)
                 have hm45 := Mem.drop Hsq23 _ (Mem.pick5 Hsq42 Heq39 [_] Hlq12 Hk2 Hsq23 _ hm44)
                 have hm46 := (Mem.pick5 Hsq42 Heq39 [_] Hlq12 Hk2 Hv _ hm45)
                 have hm47 := (Mem.pick2 Hv Hsq42 Heq39 _ hm46)
                 have hm48 := (Mem.pick2 Heq39 Hv Hsq42 _ hm47)
                 have hm49 := (Mem.pick5 Hsq42 Heq39 Hv [_] Hlq12 Hk2 _ hm48)
                 have hm50 := (Mem.pick5 Hk2 Hsq42 Heq39 Hv [_] Hlq12 _ hm49)
                 have hm51 := (Mem.pick5 Hlq12 Hk2 Hsq42 Heq39 Hv [_] _ hm50)
                 exact ⟨⟨(k + 1), vk2, Hk2, rq42, psq42, (Hsq42 ++ (Heq39 ++ Hv)), oM, oM, (GrowK.cast gk2 (by rw [hat])), hrr1, hel1, hg2, hkv1, s0, s2, s3, s4, (Eq.trans s5 (congrArg i64 (by rw [hat]))), (Eq.trans s6 (congrArg bl (badS_t hkL hb40))), s7, s17, s30, s40, s42, s43, rfl, (by
                   have hT := hm51
                   try simp only [List.append_assoc, List.cons_append, List.nil_append, List.append_nil] at hT ⊢
                   exact hT)⟩, meas (rfl) z44 oM oM⟩
               · -- false
                 refine rw_gyq (s := 70) rfl rfl hb40 rfl (ev_move (v := (i64 (decE ((rl.getD k sl0).2)))) rfl) <| rw_gyq (s := 70) rfl rfl hb40 rfl (ev_i64_neq (b := 0) rfl rfl) <| rw_q rfl (ev_pick_fk rfl hb40 rfl) <| rw_q rfl (ev_assign (v := (bl ((decE ((rl.getD k sl0).2)) != 0))) rfl) ?_
                 refine rN (cw_region ?_)
                 refine rM rfl s7 <| rM rfl (v := vq39) rfl <| rw_c rfl (opR_call Try.func40 bd40 nm40 (args2 rfl rfl) (c_rdo mN Hv vv ps vq39 psq39 _ nN (fun q hq => (hm38).own _ (List.mem_append_right _ (List.mem_append_right _ (List.mem_append_right _ (List.mem_append_right _ (List.mem_append_right _ (List.mem_append_right _ (List.mem_append_left _ hq)))))))) hrv (fun a ha => hel a ha _ (fun q hq => (hm38).own _ (List.mem_append_right _ (List.mem_append_right _ (List.mem_append_right _ (List.mem_append_right _ (List.mem_append_right _ (List.mem_append_right _ (List.mem_append_left _ hq))))))))) (grq39.rd hm38) (fun a ha => heq39 a ha _ (fun q hq => (hm38).own _ (List.mem_append_right _ (List.mem_append_left _ hq)))) hg1 sL)) ?_
                 rintro rq53 w52 ⟨psq53, Hsq53, hkvq53, hfrq53, hplq53, hrrq53, k_w52⟩
                 have hm52 : Mem w52 (restOf w0) (Hsq53 ++ (Hoq39 ++ (Heq39 ++ ([(bdq12, .cells #[vlq12, vk2] 94 (0, 0))] ++ (Hlq12 ++ (Hk2 ++ (Hsq23 ++ (Hv ++ ([]))))))))) := Mem.new (H := Hoq39 ++ (Heq39 ++ ([(bdq12, .cells #[vlq12, vk2] 94 (0, 0))] ++ (Hlq12 ++ (Hk2 ++ (Hsq23 ++ (Hv ++ ([])))))))) (H' := Hsq53) hm38 k_w52
                 have hkv1 := do_next hkv hMd hkvq53
                 have hpl1 := hplq53
                 have hel1 := ElP.three (Hs := Hsq53) hel heq39 hfrq53
                 have hg2 := gone_all hfrq53
                 have hrr1 := RdH.three (He := Heq39) hrrq53
                 refine rA rfl (v := rq53) rfl ?_
                 refine rw_nil (kBlk_normal ?_)
                 refine CW.abs (fun g => g 0 = vL ∧ g 2 = (bl false) ∧ g 3 = (ptr bdq12 0) ∧ g 4 = (i64 0) ∧ g 5 = (i64 (((roomB (LW.take k)) + j : Nat) : Int)) ∧ g 6 = (bl ((decE ((rl.getD k sl0).2)) != 0)) ∧ g 7 = rq53 ∧ g 8 = (i64 (k : Int)) ∧ g 9 = (slv (rl.getD k sl0)) ∧ g 12 = vq39 ∧ g 13 = (i64 (decE ((rl.getD k sl0).2))) ∧ g 17 = (bl false) ∧ g 30 = (bl (decide (60 < (roomB (rl.map (·.2)) : Int)))) ∧ g 40 = (bl false) ∧ g 42 = vL ∧ g 43 = (i64 (rl.length : Int)) ∧ g 44 = (i64 (k : Int)) ∧ g 45 = (bl (decide ((k : Int) < (rl.length : Int)))) ∧ g 51 = r1q23 ∧ g 52 = (i64 ((blksD 1#64 (BitVec.ofInt 64 (k : Int)) ((rl.getD k sl0).2)).length : Int)) ∧ g 53 = (i64 (j : Int)) ∧ g 54 = (bl (decide ((j : Int) < ((blksD 1#64 (BitVec.ofInt 64 (k : Int)) ((rl.getD k sl0).2)).length : Int)))) ∧ True) ⟨s0, s2, s3, s4, s5, rfl, rfl, s8, s9, rfl, rfl, s17, s30, s40, s42, s43, s44, s45, s51, s52, s53, rfl, trivial⟩ ?_
                 rintro fr54 ⟨s0, s2, s3, s4, s5, s6, s7, s8, s9, s12, s13, s17, s30, s40, s42, s43, s44, s45, s51, s52, s53, s54, _⟩
                 refine cw_region <| rw_q rfl (ev_i64_add (b := 1) s44 rfl oM oM) <| rw_q rfl (ev_move (v := (i64 ((k : Int) + 1))) rfl) <| rN ?_
                 have hm55 := Mem.drop Hoq39 _ (Mem.pick Hsq53 Hoq39 _ hm52)
                 have hm56 := Mem.drop Hsq23 _ (Mem.pick5 Hsq53 Heq39 [_] Hlq12 Hk2 Hsq23 _ hm55)
                 have hm57 := (Mem.pick5 Hsq53 Heq39 [_] Hlq12 Hk2 Hv _ hm56)
                 have hm58 := (Mem.pick2 Hv Hsq53 Heq39 _ hm57)
                 have hm59 := (Mem.pick2 Heq39 Hv Hsq53 _ hm58)
                 have hm60 := (Mem.pick5 Hsq53 Heq39 Hv [_] Hlq12 Hk2 _ hm59)
                 have hm61 := (Mem.pick5 Hk2 Hsq53 Heq39 Hv [_] Hlq12 _ hm60)
                 have hm62 := (Mem.pick5 Hlq12 Hk2 Hsq53 Heq39 Hv [_] _ hm61)
                 exact ⟨⟨(k + 1), vk2, Hk2, rq53, psq53, (Hsq53 ++ (Heq39 ++ Hv)), oM, oM, (GrowK.cast gk2 (by rw [hat])), hrr1, hel1, hg2, hkv1, s0, s2, s3, s4, (Eq.trans s5 (congrArg i64 (by rw [hat]))), (Eq.trans s6 (congrArg bl (by rw [hbk]; exact badS_f hkL hb40))), s7, s17, s30, s40, s42, s43, rfl, (by
                   have hT := hm62
                   try simp only [List.append_assoc, List.cons_append, List.nil_append, List.append_nil] at hT ⊢
                   exact hT)⟩, meas (rfl) z44 oM oM⟩
         · -- false
           have hc21p := of_decide_eq_false hc21
           refine cw_exit ?_
           refine kThen_exit (kThen_exit (kBlk_hit ?_))
           refine cw_seq ?_
           have hkl : k = LW.length := by omega
           have hat2 : (roomB (LW.take k)) = roomB LW := by rw [hkl, List.take_length]
           have hrw3 := rawK_len (ls := L0) (B := (badD LW)) (roomB (LW.take k))
           have hbe : crashB L0 (rawK L0 (badD LW) (roomB (LW.take k))) [1#8] = (badD LW) := raw_part (by rw [hL0]; exact blank_len) hB64 oM oM (fun j hj => by rw [badD_rest hrL oM, hL0])
           have hkv2 : ps.map kvOf = openS LW := by rw [hkv, hkl]; exact openS_K
           refine cw_region <| rM rfl s3 ?_
           have hF64 : Mem w20 (restOf w0) (([(bdq12, .cells #[vlq12, vk] 94 (0, 0))] ++ (Hlq12 ++ (Hk ++ ([])))) ++ (Hv ++ ([]))) := by
             have hT := (Mem.pick2 Hlq12 Hk [_] _ (Mem.pick2 Hk [_] Hlq12 _ (Mem.pick2 [_] Hlq12 Hk _ hm20)))
             try simp only [List.append_assoc, List.cons_append, List.nil_append, List.append_nil] at hT ⊢
             exact hT
           refine rw_c rfl (opR_call Try.func46 bd46 nm46 (args1 rfl) (c_dsync bdq12 vlq12 L0 Hlq12 vk (rawK L0 (badD LW) (roomB (LW.take k))) Hk _ _ (Mem.give hF64) gg13 gk (okP_hat (okP_raw _)) sL sL)) ?_
           rintro _ w63 ⟨Hl2q65, rfl, gl2q65, k_w63⟩
           have hm63 : Mem w63 (restOf w0) ([(bdq12, .cells #[vlq12, (Value.slice none 0 0)] 94 (0, 0))] ++ (Hl2q65 ++ (Hv ++ ([])))) := (by
             have hT := Mem.back hF64 k_w63
             try simp only [List.append_assoc, List.cons_append, List.nil_append, List.append_nil] at hT ⊢
             exact hT)
           have gg66 : GrowK (encA u8) 64 83 vlq12 (badD LW) Hl2q65 := GrowK.cast gl2q65 (hbe)
           refine rN (cw_seq ?_)
           rcases Bool.eq_false_or_eq_true (okS LW) with hb67 | hb67
           · -- true
             have hnnq68 := hBJ.new oM
             have hobq68 := hBJ.old
             obtain ⟨frOq68, hfrOq68⟩ : ∃ q : Nat, q = 60 - 0 := ⟨_, rfl⟩
             have hJoq68 := open_JI hBJ oM
             rw [← hfrOq68] at hJoq68
             have hJlq68 := hBJ.len
             have hJhq68 := hBJ.half
             have hR0 : RightK (openS LW) := openS_right fun b hb => by have := hBJ.el b hb; omega
             have hlpv := congrArg List.length hkv2; rw [List.length_map] at hlpv
             refine cw_region <| rM rfl s3 ?_
             have hF70 : Mem w63 (restOf w0) (([(bdq12, .cells #[vlq12, (Value.slice none 0 0)] 94 (0, 0))] ++ (Hl2q65 ++ ([]))) ++ (Hv ++ ([]))) := by
               have hT := (Mem.pick Hl2q65 [_] _ (Mem.pick [_] Hl2q65 _ hm63))
               try simp only [List.append_assoc, List.cons_append, List.nil_append, List.append_nil] at hT ⊢
               exact hT
             refine rw_c rfl (opR_call Try.func39 bd39 nm39 (args1 rfl) (c_sopen bdq12 vlq12 (badD LW) Hl2q65 frOq68 60 LW _ _ (Mem.give hF70) gg66 (congrArg Prod.snd hobq68) (by rw [hobq68]; show _ - ((0 : Nat) : Int) = ((frOq68 : Nat) : Int); omega) hJoq68 hnnq68.2 hb67 oM)) ?_
             rintro _ w69 ⟨bsq71, bjq71, bq71, Hmq71, vrq71, rsq71, Hrq71, Hl2q71, rfl, gmq71, hMq71, grq71, gl2q71, k_w69⟩
             have hm69 : Mem w69 (restOf w0) ([(bsq71, .cells #[(ptr bjq71 0), (Value.map (some bq71))] 118 (0, 0))] ++ (Hmq71 ++ ([(bjq71, .cells #[(ptr bdq12 0), (i64 (frOq68 : Int)), (i64 (60 : Int)), (u64 (newB (badD LW) [])), vrq71, (i64 (roomB LW : Int))] 100 (0, 0))] ++ (Hrq71 ++ ([(bdq12, .cells #[vlq12, (Value.slice none 0 0)] 94 (0, 0))] ++ (Hl2q71 ++ (Hv ++ ([])))))))) := (by
               have hT := Mem.back hF70 k_w69
               try simp only [List.append_assoc, List.cons_append, List.nil_append, List.append_nil] at hT ⊢
               exact hT)
             refine rw_q rfl (ev_move (v := (Value.tuple #[(ptr bsq71 0), (i64 0)])) rfl) <| rw_q (v := (ptr bsq71 0)) rfl (ev_extract rfl rfl) <| rw_q (v := (i64 0)) rfl (ev_extract rfl rfl) <| rw_q rfl (ev_assign (v := (ptr bsq71 0)) rfl) <| rw_q rfl (ev_assign (v := (i64 0)) rfl) ?_
             refine rN (cw_seq (sR ?_))
             refine rM rfl s6 <| rN ?_
             have hd72 : (badS LW k) = false := (by rw [hkl, badS_all, hb67]; rfl)
             refine cw_cond_f rfl hd72 ?_
             refine cw_skip (kThen_normal (sR ?_))
             refine rw_q rfl (ev_move (v := (i64 0)) rfl) <| rw_q rfl (ev_i64_eql (b := 0) rfl rfl) <| rw_q rfl (ev_move (v := (bl (0 == 0))) rfl) ?_
             have hd73 : (0 == 0) = true := told_true rfl
             refine rw_gyq (s := 94) rfl rfl hd73 rfl (ev_move (v := (ptr bsq71 0)) rfl) <| rw_gyq (s := 94) rfl rfl hd73 rfl (ev_move s7) <| rw_gy (s := 94) rfl rfl hd73 rfl (opR_call Try.func42 bd42 nm42 (args2 rfl rfl) (c_sis bsq71 bjq71 bq71 (openS LW) vv ps _ hm69.h0 (MapG.rdIn gmq71 (fun p hp => (hm69).own _ (List.mem_append_right _ (List.mem_append_left _ hp))) nN) hR0.small sL (hrv _ (fun q hq => (hm69).own _ (List.mem_append_right _ (List.mem_append_right _ (List.mem_append_right _ (List.mem_append_right _ (List.mem_append_right _ (List.mem_append_right _ (List.mem_append_left _ hq)))))))) nN) (fun a ha => hel a ha _ (fun q hq => (hm69).own _ (List.mem_append_right _ (List.mem_append_right _ (List.mem_append_right _ (List.mem_append_right _ (List.mem_append_right _ (List.mem_append_right _ (List.mem_append_left _ hq))))))))) hkv2)) ?_
             rintro _ w74 ⟨rfl, _ew74⟩
             have hm74 := hm69.ext _ew74
             refine rw_q rfl (ev_pick_tk rfl hd73 rfl) <| rw_q rfl (ev_assign (v := (bl true)) rfl) <| rN ?_
             refine CW.abs (fun g => g 0 = vL ∧ g 2 = (bl true) ∧ g 3 = (ptr bdq12 0) ∧ g 4 = (i64 0) ∧ g 5 = (i64 ((roomB (LW.take k)) : Int)) ∧ g 6 = (bl (badS LW k)) ∧ g 7 = vv ∧ g 14 = (ptr bsq71 0) ∧ g 15 = (i64 0) ∧ g 17 = (bl false) ∧ g 30 = (bl (decide (60 < (roomB (rl.map (·.2)) : Int)))) ∧ g 40 = (bl false) ∧ g 42 = vL ∧ g 43 = (i64 (rl.length : Int)) ∧ g 44 = (i64 (k : Int)) ∧ g 45 = (bl (decide ((k : Int) < (rl.length : Int)))) ∧ g 85 = (bl (badS LW k)) ∧ True) ⟨s0, rfl, s3, s4, s5, s6, s7, rfl, rfl, s17, s30, s40, s42, s43, s44, rfl, rfl, trivial⟩ ?_
             rintro fr76 ⟨s0, s2, s3, s4, s5, s6, s7, s14, s15, s17, s30, s40, s42, s43, s44, s45, s85, _⟩
             refine cw_ret <| fnPost_ret [(bl true)] ⟨s2, trivial⟩ ?_
             exact ⟨rfl, Mem.below w0 hm74⟩
           · -- false
             have hnnq77 := hBJ.new oM
             have hobq77 := hBJ.old
             obtain ⟨frOq77, hfrOq77⟩ : ∃ q : Nat, q = 60 - 0 := ⟨_, rfl⟩
             have hJoq77 := open_JI hBJ oM
             rw [← hfrOq77] at hJoq77
             have hJlq77 := hBJ.len
             have hJhq77 := hBJ.half
             have hR0 : RightK (openS LW) := openS_right fun b hb => by have := hBJ.el b hb; omega
             have hlpv := congrArg List.length hkv2; rw [List.length_map] at hlpv
             refine cw_region <| rM rfl s3 ?_
             have hF79 : Mem w63 (restOf w0) (([(bdq12, .cells #[vlq12, (Value.slice none 0 0)] 94 (0, 0))] ++ (Hl2q65 ++ ([]))) ++ (Hv ++ ([]))) := by
               have hT := (Mem.pick Hl2q65 [_] _ (Mem.pick [_] Hl2q65 _ hm63))
               try simp only [List.append_assoc, List.cons_append, List.nil_append, List.append_nil] at hT ⊢
               exact hT
             refine rw_c rfl (opR_call Try.func39 bd39 nm39 (args1 rfl) (c_sopen_bad bdq12 vlq12 (badD LW) Hl2q65 frOq77 60 LW _ _ (Mem.give hF79) gg66 (congrArg Prod.snd hobq77) (by rw [hobq77]; show _ - ((0 : Nat) : Int) = ((frOq77 : Nat) : Int); omega) hJoq77 hnnq77.2 hb67 oM)) ?_
             rintro _ w78 ⟨rfl, k_w78⟩
             have hm78 : Mem w78 (restOf w0) (Hv ++ ([])) := (by
               have hT := Mem.back hF79 k_w78
               try simp only [List.append_assoc, List.cons_append, List.nil_append, List.append_nil] at hT ⊢
               exact hT)
             refine rw_q rfl (ev_move (v := (Value.tuple #[(Value.pointer none), (i64 9)])) rfl) <| rw_q (v := (Value.pointer none)) rfl (ev_extract rfl rfl) <| rw_q (v := (i64 9)) rfl (ev_extract rfl rfl) <| rw_q rfl (ev_assign (v := (Value.pointer none)) rfl) <| rw_q rfl (ev_assign (v := (i64 9)) rfl) ?_
             refine rN (cw_seq (sR ?_))
             refine rM rfl s6 <| rN ?_
             have hd81 : (badS LW k) = true := (by rw [hkl, badS_all, hb67]; rfl)
             refine cw_cond_t rfl hd81 <| sR <| rw_q rfl (ev_move (v := (i64 9)) rfl) <| rw_q rfl (ev_i64_eql (b := 9) rfl rfl) <| rw_q rfl (ev_move (v := (bl (9 == 9))) rfl) ?_
             have hd82 : (9 == 9) = true := told_true rfl
             refine rw_gyq (s := 88) rfl rfl hd82 rfl (ev_move (v := (Value.pointer none)) rfl) <| rw_gyq (s := 88) rfl rfl hd82 rfl (ev_nil_nil_eql uT70 rfl rfl) <| rw_q rfl (ev_pick_tk rfl hd82 rfl) <| rw_q rfl (ev_assign (v := (bl true)) rfl) <| rN ?_
             refine CW.abs (fun g => g 0 = vL ∧ g 2 = (bl true) ∧ g 3 = (ptr bdq12 0) ∧ g 4 = (i64 0) ∧ g 5 = (i64 ((roomB (LW.take k)) : Int)) ∧ g 6 = (bl (badS LW k)) ∧ g 7 = vv ∧ g 14 = (Value.pointer none) ∧ g 15 = (i64 9) ∧ g 17 = (bl false) ∧ g 30 = (bl (decide (60 < (roomB (rl.map (·.2)) : Int)))) ∧ g 40 = (bl false) ∧ g 42 = vL ∧ g 43 = (i64 (rl.length : Int)) ∧ g 44 = (i64 (k : Int)) ∧ g 45 = (bl (decide ((k : Int) < (rl.length : Int)))) ∧ g 85 = (bl (badS LW k)) ∧ True) ⟨s0, rfl, s3, s4, s5, s6, s7, rfl, rfl, s17, s30, s40, s42, s43, s44, rfl, rfl, trivial⟩ ?_
             rintro fr83 ⟨s0, s2, s3, s4, s5, s6, s7, s14, s15, s17, s30, s40, s42, s43, s44, s45, s85, _⟩
             refine cw_ret (kThen_ret ?_)
             refine fnPost_ret [(bl true)] ⟨s2, trivial⟩ ?_
             exact ⟨rfl, Mem.below w0 hm78⟩


end Go.Proofs.Ytfbnhoolkajebaa
