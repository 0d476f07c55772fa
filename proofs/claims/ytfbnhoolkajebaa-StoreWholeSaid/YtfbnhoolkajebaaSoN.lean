/- The law of all calls: its walk. Conditions: none beyond those that each theorem states. -/
import Derived.Test.YtfbnhoolkajebaaSoJ
namespace Go.Proofs.Ytfbnhoolkajebaa
section
set_option linter.unusedVariables false
set_option linter.unusedSimpArgs false
/-! Rows of pairs, one behind the other. -/
abbrev PLT := (Option Addr × Nat × Nat) × List PairT
def plv (t : PLT) : Value := .slice t.1.1 t.1.2.1 t.1.2.2
def encPL (t : PLT) : List Value := [plv t]
def pl0 : PLT := ((none, 0, 0), [])
/-- What a row of rows stands on. -/
def PlR (m : Nat → Option Obj) (a : PLT) : Prop := RdK m encP 3 (plv a) a.2 ∧ (∀ p ∈ a.2, Rd m u8 (slv p.val) p.val.2)
def PlB (a : PLT) : Prop := (∀ p ∈ a.2, p.key.size ≤ 9223372036854775807 ∧ p.val.2.length ≤ 9223372036854775807) ∧ a.2.length ≤ 9223372036854775807
theorem PlR.mono {m m' : Nat → Option Obj} {a : PLT} (h : PlR m a) (hm : ∀ b o, m b = some o → m' b = some o) : PlR m' a := ⟨h.1.mono hm, fun p hp => (h.2 p hp).mono hm⟩
theorem opens_pl {P : Program} {t e : TypeId} (hu : P.underlying t = some (.slice e)) (hc : P.cellsOf e = 3) (he : Opens P e (fun w cs => ∃ a : PairT, cs = encP a ∧ (encP a).length = 3 ∧ (Rd (blks w) u8 (slv a.val) a.val.2 ∧ (a.key.size ≤ 9223372036854775807 ∧ a.val.2.length ≤ 9223372036854775807)))) :
    Opens P t (fun w cs => ∃ a : PLT, cs = encPL a ∧ (encPL a).length = 1 ∧ (PlR (blks w) a ∧ PlB a)) :=
  (opens_slK (enc := encP) (k := 3) rfl hu hc he).mono (by
    rintro w cs ⟨v, l, rfl, h1, h2, h3⟩
    have e : ∃ t : PLT, plv t = v ∧ t.2 = l := by
      obtain ⟨_, a, cap, rfl, _⟩ := h1
      exact ⟨((a, l.length, cap), l), rfl, rfl⟩
    obtain ⟨t, rfl, rfl⟩ := e
    exact ⟨t, rfl, rfl, ⟨h1, fun p hp => (h2 p hp).1⟩, fun p hp => (h2 p hp).2, h3⟩)
/-- What isn't great. -/
def SmallL (l : List PairT) : Prop := l.length ≤ 20 ∧ ∀ i, i < l.length → (l.getD i pair0).key.size ≤ 1100 ∧ (l.getD i pair0).val.2.length ≤ 2000
theorem small_stepL {lL : List PLT} {k : Nat} (h : ∀ i, i < k → SmallL (lL.getD i pl0).2) (hk : SmallL (lL.getD k pl0).2) : ∀ i, i < k + 1 → SmallL (lL.getD i pl0).2 := fun i hi => by
  rcases Nat.lt_succ_iff_lt_or_eq.1 hi with h1 | h1
  · exact h i h1
  · subst h1; exact hk
/-- Not more than so many keys, none great. -/
def BndK (n : Nat) (S : List KV) : Prop := S.length ≤ n ∧ ∀ p ∈ S, p.1.size ≤ 1100 ∧ p.2.length ≤ 2000
theorem insK_len (S : List KV) (k : ByteArray) (v : List (BitVec 8)) : (insK S k v).length ≤ S.length + 1 := by
  induction S with
  | nil => exact Nat.le_refl _
  | cons p S ih =>
    obtain ⟨a, b⟩ := p
    unfold insK
    split
    · simp only [List.length_cons]; omega
    · split
      · simp only [List.length_cons]; omega
      · simp only [List.length_cons]; omega
theorem delK_len (S : List KV) (k : ByteArray) : (delK S k).length ≤ S.length := by
  induction S with
  | nil => exact Nat.le_refl _
  | cons p S ih =>
    obtain ⟨a, b⟩ := p
    unfold delK
    split
    · simp only [List.length_cons]; omega
    · split
      · simp only [List.length_cons]; omega
      · simp only [List.length_cons]; omega
theorem BndK.doK {n : Nat} {S : List KV} (h : BndK n S) {l : List PairT} (hl : ∀ i, i < l.length → (l.getD i pair0).key.size ≤ 1100 ∧ (l.getD i pair0).val.2.length ≤ 2000) : ∀ k, k ≤ l.length → BndK (n + k) (doK S l k)
  | 0, _ => h
  | k + 1, hk => by
    have ih := BndK.doK h hl k oM
    have hq := hl k oM
    cases hg : (l.getD k pair0).gone with
    | true =>
      rw [doK_d hg]
      exact ⟨by have := delK_len (Proofs.Ytfbnhoolkajebaa.doK S l k) (l.getD k pair0).key; have := ih.1; omega, fun p hp => ih.2 p (delK_mem hp)⟩
    | false =>
      rw [doK_i hg]
      refine ⟨by have := insK_len (Proofs.Ytfbnhoolkajebaa.doK S l k) (l.getD k pair0).key (l.getD k pair0).val.2; have := ih.1; omega, fun p hp => ?_⟩
      rcases insK_mem hp with rfl | hp
      · exact hq
      · exact ih.2 p hp
theorem BndK.nil : BndK 0 [] := ⟨Nat.le_refl _, fun p hp => by cases hp⟩
theorem BndK.do {n : Nat} {S : List KV} (h : BndK n S) {l : List PairT} (hl : SmallL l) : BndK (n + 20) (Proofs.Ytfbnhoolkajebaa.doK S l l.length) := by
  have h1 := h.doK hl.2 l.length (Nat.le_refl _)
  exact ⟨by have := h1.1; have := hl.1; omega, h1.2⟩
theorem BndK.enc {n : Nat} {S : List KV} (h : BndK n S) : (encS S).length ≤ 3107 * n := by
  obtain ⟨h1, h2⟩ := h
  have key : ∀ S : List KV, (∀ p ∈ S, p.1.size ≤ 1100 ∧ p.2.length ≤ 2000) → (encS S).length ≤ 3107 * S.length := by
    intro S hS
    unfold encS encL
    induction S with
    | nil => exact Nat.le_refl _
    | cons p S ih =>
      have ih' := ih (fun q hq => hS q (List.mem_cons_of_mem _ hq))
      have hp := hS p List.mem_cons_self
      simp only [List.map_cons, List.flatten_cons, List.length_append, List.length_cons] at ih' ⊢
      have e : (recP (prOf p).gone (prOf p).key (prOf p).val.2).length = 7 + p.1.size + p.2.length := recP_len
      omega
  have := key S h2
  have : 3107 * S.length ≤ 3107 * n := Nat.mul_le_mul_left _ h1
  omega
theorem BndK.commit {n hh : Nat} {LW : List (List (BitVec 8))} {l : List PairT} (h : BndK n (openS LW)) (hok : okS LW = true) (hR : RightK (openS LW)) (hl : SmallL l) : BndK (n + 20) (openS (commitF hh LW l).2) := by
  have hv : ∀ p ∈ l, p.val.2.length ≤ 1048576 := fun p hp => by
    obtain ⟨i, hi, rfl⟩ := List.mem_iff_getElem.1 hp
    have := (hl.2 i hi).2
    rw [show l.getD i pair0 = l[i] by simp [List.getD_eq_getElem?_getD, hi]] at this
    omega
  rw [(commit_ok (hh := hh) hok hR hv).2]
  split
  · exact h.do hl
  · exact ⟨by have := h.1; omega, h.2⟩
theorem SmallL.el {l : List PairT} (h : SmallL l) : ∀ a ∈ l, a.key.size ≤ 1048576 ∧ a.val.2.length ≤ 1048576 := smallP_all h.2
theorem SmallL.len {l : List PairT} (h : SmallL l) : (encK l l.length).length ≤ 62140 ∧ (encV l).length ≤ 62140 := great_len h
/-! Keys that begin with a text. -/
section
variable {l : List ByteArray} {P : ByteArray → Bool}
end
theorem plQ1 {l : List PLT} {k : Nat} {m : Nat → Option Obj} (h : ∀ a ∈ l, PlR m a) (hk : k < l.length) : RdK m encP 3 (plv (l.getD k pl0)) (l.getD k pl0).2 := (h _ (getD_mem hk)).1
theorem plQ2 {l : List PLT} {k : Nat} {m : Nat → Option Obj} (h : ∀ a ∈ l, PlR m a) (hk : k < l.length) : ∀ p ∈ (l.getD k pl0).2, Rd m u8 (slv p.val) p.val.2 := (h _ (getD_mem hk)).2
theorem PlR.ofRest {R : Rest} {H : List (Nat × Obj)} {w : World} {a : PLT} (h : PlR R.blk a) (hm : Mem w R H) : PlR (blks w) a := h.mono fun b o e => hm.rest b o e
theorem PlR.addRest {R : Rest} {H H' : List (Nat × Obj)} {w : World} {a : PLT} (hm : Mem w R (H ++ H')) (h : PlR R.blk a) : PlR (R.add H').blk a := h.mono fun b o e => hm.addRest e
attribute [local irreducible] crashB crashK pushB readB inB errB cutN seenW
attribute [local irreducible] markB putB getB getK partB placeF blkOf rawB writeK blocksN
attribute [local irreducible] mostK newB roomB
attribute [local irreducible] recB recF recN genF badB lastP dataB gOf rOf pOf nOf loopH readH
attribute [local irreducible] okP layK turnL turnP oldB
attribute [local irreducible] openD
attribute [local irreducible] natB tkN tkOk kN vN_ oneOk oneR decF decP decV decE rightB encK recP num2 num4 allR goneB encV encE encL encS doO openK openS okS doK commitF lkA keysB
set_option maxHeartbeats 2000000 in
theorem c_greatL (vL : Value) (lL : List PLT) (w0 : World)  (hrL : RdK (blks w0) encPL 1 vL lL) (hqL : ∀ a ∈ lL, PlR (blks w0) a) (hqB : ∀ a ∈ lL, PlB a) (hlL : lL.length ≤ 9223372036854775807) : CallsR Try.prog 38 #[vL] w0 (fun r w1 => ∃ gL : Bool, r = bl gL ∧ (gL = false → lL.length ≤ 30 ∧ ∀ i, i < lL.length → SmallL (lL.getD i pl0).2) ∧ Mem w1 (restOf w0) []) := by
 refine callsR_of_cw (args := [vL]) Try.func38 rfl Try.ntmps38 Try.results38 rfl ?_
 have hm0 : Mem w0 (restOf w0) [] := Mem.of_world w0
 refine sR <| rw_q rfl (ev_assign (v := (bl false)) rfl) ?_
 refine rN (cw_seq (sR ?_))
 refine rM rfl (v := vL) rfl <| rw_q (v := (i64 (lL.length : Int))) rfl (ev_len_rk (RdK.ofRest hrL hm0) uT68 rfl) <| rw_q rfl (ev_i64_gtr (b := 30) rfl rfl) <| rN ?_
 refine cw_cond rfl (fun hc1 => ?_) (fun hc1 => ?_)
 · -- true
   have hc1p := of_decide_eq_true hc1
   refine sR <| rw_q rfl (ev_assign (v := (bl true)) rfl) ?_
   refine rN (cw_ret (kThen_ret ?_))
   refine fnPost_ret [(bl true)] ⟨rfl, trivial⟩ ?_
   exact ⟨true, rfl, (fun h => by cases h), hm0⟩
 · -- false
   have hc1p := of_decide_eq_false hc1
   refine cw_skip (kThen_normal (cw_seq (sR ?_)))
   refine rM rfl (v := vL) rfl <| rw_q (v := (i64 (lL.length : Int))) rfl (ev_len_rk (RdK.ofRest hrL hm0) uT68 rfl) <| rw_q rfl (ev_move (v := (i64 0)) rfl) ?_
   refine rN (cw_block ?_)
   refine cw_loop (fun g wv => ∃ (k : Nat), (k ≤ lL.length) ∧ (∀ i, i < k → SmallL (lL.getD i pl0).2) ∧ g 0 = vL ∧ g 7 = (bl (decide (30 < (lL.length : Int)))) ∧ g 8 = vL ∧ g 9 = (i64 (lL.length : Int)) ∧ g 10 = (i64 (k : Int)) ∧ Mem wv (restOf w0) []) (fun g wv => ((lL.length : Int) - RowKit.intOf (g 10)).toNat) ?_ ?_
   · exact ⟨0, (Nat.zero_le _), (fun i hi => by omega), rfl, rfl, rfl, rfl, rfl, hm0⟩
   · rintro fr2 w3 ⟨k, hk, hsm, s0, s7, s8, s9, s10, hm3⟩
     have z10 := s10
     refine sR <| rw_q rfl (ev_i64_lss s10 s9) ?_
     refine rN (cw_seq ?_)
     refine cw_cond rfl (fun hc4 => ?_) (fun hc4 => ?_)
     · -- true
       have hc4p := of_decide_eq_true hc4
       have hqk := hqB _ (getD_mem (d := pl0) (show k < lL.length by omega))
       refine cw_skip (kThen_normal (cw_seq (cw_block (sR ?_))))
       refine rw_q rfl (ev_indexAddr_rk (i := (k : Int)) (RdK.ofRest hrL hm3) uT68 ti55 s8 s10 oM sL) <| rw_q (v := (plv (lL.getD k pl0))) rfl (ev_load_rk1 (i := (k : Int)) (dflt := pl0) (u := (plv (lL.getD k pl0))) (RdK.ofRest hrL hm3) sL uT55 rfl rfl (by decide) rfl) <| rw_q rfl (ev_assign (v := (plv (lL.getD k pl0))) rfl) ?_
       refine rN (sR ?_)
       refine rw_q rfl (ev_move (v := (plv (lL.getD k pl0))) rfl) <| rw_c rfl (opR_call Try.func31 bd31 nm31 (args1 rfl) (c_great16 (plv (lL.getD k pl0)) ((lL.getD k pl0).2) _ (RdK.ofRest (plQ1 hqL (k := k) sD) hm3) (fun a h => Rd.ofRest ((plQ2 hqL (k := k) sD) a h) hm3) hqk.2 hqk.1)) ?_
       rintro _ w5 ⟨gxq6, rfl, hgq6, k_w5⟩
       have hm5 : Mem w5 (restOf w0) [] := Mem.new (H := []) (H' := []) hm3 k_w5
       refine rN ?_
       refine cw_cond rfl (fun hc7 => ?_) (fun hc7 => ?_)
       · -- true
         refine sR <| rw_q rfl (ev_assign (v := (bl true)) rfl) ?_
         refine rN (cw_ret ?_)
         refine kBlk_ret (kThen_ret (kBlk_ret ?_))
         refine fnPost_ret [(bl true)] ⟨rfl, trivial⟩ ?_
         exact ⟨true, rfl, (fun h => by cases h), hm5⟩
       · -- false
         refine cw_skip (kBlk_normal (cw_region ?_))
         refine rw_q rfl (ev_i64_add (b := 1) s10 rfl oM oM) <| rw_q rfl (ev_move (v := (i64 ((k : Int) + 1))) rfl) <| rN ?_
         exact ⟨⟨(k + 1), oM, (small_stepL hsm (hgq6 hc7)), s0, s7, s8, s9, rfl, hm5⟩, meas (rfl) z10 oM oM⟩
     · -- false
       have hc4p := of_decide_eq_false hc4
       refine cw_exit ?_
       refine kThen_exit (kThen_exit (kBlk_hit ?_))
       refine sR <| rw_q rfl (ev_assign (v := (bl false)) rfl) ?_
       refine rN (cw_ret ?_)
       refine fnPost_ret [(bl false)] ⟨rfl, trivial⟩ ?_
       exact ⟨false, rfl, fun _ => ⟨by omega, fun i hi => hsm i oM⟩, hm3⟩


end --m
section
set_option linter.unusedVariables false
set_option linter.unusedSimpArgs false
attribute [local irreducible] crashB crashK pushB readB inB errB cutN seenW
attribute [local irreducible] markB putB getB getK partB placeF blkOf rawB writeK blocksN
attribute [local irreducible] mostK newB roomB
attribute [local irreducible] recB recF recN genF badB lastP dataB gOf rOf pOf nOf loopH readH
attribute [local irreducible] okP layK turnL turnP oldB
attribute [local irreducible] openD
attribute [local irreducible] natB tkN tkOk kN vN_ oneOk oneR decF decP decV decE rightB encK recP num2 num4 allR goneB encV encE encL encS doO openK openS okS doK commitF lkA keysB
end --m
section
set_option linter.unusedVariables false
set_option linter.unusedSimpArgs false
open Go.RowKit
theorem Mem.pick11 {w : World} {R : Rest} (A0 A1 A2 A3 A4 A5 A6 A7 A8 A9 A10 B C : List (Nat × Obj)) (h : Mem w R (A0 ++ (A1 ++ (A2 ++ (A3 ++ (A4 ++ (A5 ++ (A6 ++ (A7 ++ (A8 ++ (A9 ++ (A10 ++ (B ++ (C)))))))))))))) : Mem w R (B ++ (A0 ++ (A1 ++ (A2 ++ (A3 ++ (A4 ++ (A5 ++ (A6 ++ (A7 ++ (A8 ++ (A9 ++ (A10 ++ (C))))))))))))) :=
  h.perm (by
    have e : ∀ X Y Z : List (Nat × Obj), (X ++ (Y ++ Z)).Perm (Y ++ (X ++ Z)) := fun X Y Z => by rw [← List.append_assoc, ← List.append_assoc]; exact List.Perm.append_right _ List.perm_append_comm
    refine (e _ _ _).trans <| List.Perm.append_left _ <| (e _ _ _).trans <| List.Perm.append_left _ <| (e _ _ _).trans <| List.Perm.append_left _ ?_
    refine (e _ _ _).trans <| List.Perm.append_left _ <| (e _ _ _).trans <| List.Perm.append_left _ <| (e _ _ _).trans <| List.Perm.append_left _ ?_
    refine (e _ _ _).trans <| List.Perm.append_left _ <| (e _ _ _).trans <| List.Perm.append_left _ <| (e _ _ _).trans <| List.Perm.append_left _ ?_
    refine (e _ _ _).trans <| List.Perm.append_left _ <| (e _ _ _).trans ?_
    exact List.Perm.refl _)
theorem Mem.pick12 {w : World} {R : Rest} (A0 A1 A2 A3 A4 A5 A6 A7 A8 A9 A10 A11 B C : List (Nat × Obj)) (h : Mem w R (A0 ++ (A1 ++ (A2 ++ (A3 ++ (A4 ++ (A5 ++ (A6 ++ (A7 ++ (A8 ++ (A9 ++ (A10 ++ (A11 ++ (B ++ (C))))))))))))))) : Mem w R (B ++ (A0 ++ (A1 ++ (A2 ++ (A3 ++ (A4 ++ (A5 ++ (A6 ++ (A7 ++ (A8 ++ (A9 ++ (A10 ++ (A11 ++ (C)))))))))))))) :=
  h.perm (by
    have e : ∀ X Y Z : List (Nat × Obj), (X ++ (Y ++ Z)).Perm (Y ++ (X ++ Z)) := fun X Y Z => by rw [← List.append_assoc, ← List.append_assoc]; exact List.Perm.append_right _ List.perm_append_comm
    refine (e _ _ _).trans <| List.Perm.append_left _ <| (e _ _ _).trans <| List.Perm.append_left _ <| (e _ _ _).trans <| List.Perm.append_left _ ?_
    refine (e _ _ _).trans <| List.Perm.append_left _ <| (e _ _ _).trans <| List.Perm.append_left _ <| (e _ _ _).trans <| List.Perm.append_left _ ?_
    refine (e _ _ _).trans <| List.Perm.append_left _ <| (e _ _ _).trans <| List.Perm.append_left _ <| (e _ _ _).trans <| List.Perm.append_left _ ?_
    refine (e _ _ _).trans <| List.Perm.append_left _ <| (e _ _ _).trans <| List.Perm.append_left _ <| (e _ _ _).trans ?_
    exact List.Perm.refl _)
/-! A row that is appended to, and read as it was, too. -/
section
variable {P : Program} {fr : Nat → Value} {w : World} {ty T T' E E' : TypeId} {x y : Operand} {kb : Nat} {R : Rest} {H Hs Hv : List (Nat × Obj)} {v u0 : Value} {ls : List SlT} {l0 : List (BitVec 8)} {m0 : Nat → Option Obj} {α : Type} {f : α → Value} {l : List α}
end
/-! What a commit tells, case by case. -/
section
variable {hh : Nat} {LW : List (List (BitVec 8))} {lp : List PairT}
end
/-- Values of the document: where they stand, and that none is gone. -/
def ValQ (m : Nat → Option Obj) (ps : List PairT) : Prop := ∀ a ∈ ps, Rd m u8 (slv a.val) a.val.2 ∧ a.gone = false
theorem ValQ.nil {m : Nat → Option Obj} : ValQ m [] := fun a h => by cases h
theorem ValQ.step {m : Nat → Option Obj} {ps lp qs : List PairT} (h : ValQ m ps) (hl : ∀ a ∈ lp, Rd m u8 (slv a.val) a.val.2) (hq : ∀ a ∈ qs, (a ∈ ps ∨ a ∈ lp) ∧ a.gone = false) : ValQ m qs := fun a ha => by
  obtain ⟨h1, h2⟩ := hq a ha
  rcases h1 with h1 | h1
  · exact h a h1
  · exact ⟨hl a h1, h2⟩
theorem RdH.empty {m0 : Nat → Option Obj} {b : Nat} {Hv : List (Nat × Obj)} : RdH m0 Hv (slc b 0 0 0) [] := fun _ _ _ => RdK.nil _ _
theorem val_small {ps : List PairT} {S : List KV} (h : ps.map kvOf = S) {n : Nat} (hb : BndK n S) : ∀ a ∈ ps, a.key.size ≤ 1048576 ∧ a.val.2.length ≤ 1048576 := fun a ha => by
  have := hb.2 (kvOf a) (by rw [← h]; exact List.mem_map.2 ⟨a, ha, rfl⟩)
  have e1 : (kvOf a).1 = a.key := rfl
  have e2 : (kvOf a).2 = a.val.2 := rfl
  rw [e1, e2] at this; omega
end --m
section
set_option linter.unusedVariables false
set_option linter.unusedSimpArgs false
attribute [local irreducible] crashB crashK pushB readB inB errB cutN seenW
attribute [local irreducible] markB putB getB getK partB placeF blkOf rawB writeK blocksN
attribute [local irreducible] mostK newB roomB
attribute [local irreducible] recB recF recN genF badB lastP dataB gOf rOf pOf nOf loopH readH
attribute [local irreducible] okP layK turnL turnP oldB
attribute [local irreducible] openD
attribute [local irreducible] natB tkN tkOk kN vN_ oneOk oneR decF decP decV decE rightB encK recP num2 num4 allR goneB encV encE encL encS doO openK openS okS doK commitF lkA keysB
end --m
end Go.Proofs.Ytfbnhoolkajebaa
