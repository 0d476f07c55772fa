/- What was synced lasts: its walk. Conditions: none beyond those that each theorem states. -/
import Derived.Test.YtfmjfojhcmmgcaaDk6
namespace Go.Proofs.Ytfmjfojhcmmgcaa
set_option linter.unusedVariables false
set_option linter.unusedSimpArgs false
/-! ### Calls, plainly -/
structure CallT where
  what_ : Int
  n_ : Int
  b : List (BitVec 8)
  picks : SlT
def encC (c : CallT) : List Value := ([[i64 c.what_], [i64 c.n_], c.b.map u8, [slv c.picks]] : List (List Value)).flatten
def call0 : CallT := ⟨0, 0, [], sl0⟩
theorem rdQ {α : Type} {l : List α} {d : α} {k : Nat} {m : Nat → Option Obj} (g : α → SlT) (h : ∀ a ∈ l, Rd m u8 (slv (g a)) (g a).2) (hk : k < l.length) : Rd m u8 (slv (g (l.getD k d))) (g (l.getD k d)).2 := by
  have e : l.getD k d = l[k] := by simp [List.getD_eq_getElem?_getD, hk]
  rw [e]; exact h _ (List.getElem_mem hk)
theorem encC_b {m : Nat → Option Obj} {v : Value} {lc : List CallT} (h : RdK m encC 67 v lc) {i : Nat} (hi : i < lc.length) : (lc.getD i call0).b.length = 64 := by
  have e : lc.getD i call0 = lc[i] := by simp [List.getD_eq_getElem?_getD, hi]
  rw [e]
  have := h.len lc[i] (by simp)
  simpa [encC] using this
def okW (ps : List WriteT) (m : Int) : Prop := ∀ i, i < ps.length → (ps.getD i write0).at_ ≠ 3 ∧ 0 ≤ (ps.getD i write0).at_ ∧ (ps.getD i write0).at_ < m
theorem okW_nil {m : Int} : okW [] m := fun i h => absurd h (Nat.not_lt_zero i)
theorem okW_hat {ps : List WriteT} {m : Int} (h : okW ps m) : ∀ i, i < ps.length → 0 ≤ (ps.getD i write0).at_ ∧ (ps.getD i write0).at_ < m := fun i hi => (h i hi).2
theorem push_okW {ls : List (List (BitVec 8))} {ps : List WriteT} {n : Int} {b : List (BitVec 8)} (h : okW ps (ls.length : Int)) (hn : n ≠ 3) : okW (pushB ls ps n b) (ls.length : Int) := by
  unfold pushB
  cases hin : inB ls n with
  | false => rw [if_neg (by decide)]; exact h
  | true =>
    rw [if_pos rfl]
    intro i hi
    rw [List.length_append] at hi
    rcases Nat.lt_or_ge i ps.length with h1 | h1
    · rw [show (ps ++ [WriteT.mk n b]).getD i write0 = ps.getD i write0 from by simp only [List.getD_eq_getElem?_getD]; rw [List.getElem?_append_left h1]]
      exact h i h1
    · have e : i = ps.length := by simp at hi; omega
      subst e
      rw [show (ps ++ [WriteT.mk n b]).getD ps.length write0 = ⟨n, b⟩ from by simp [List.getD_eq_getElem?_getD]]
      have := inB_t hin
      exact ⟨hn, this⟩
theorem push_len {ls : List (List (BitVec 8))} {ps : List WriteT} {n : Int} {b : List (BitVec 8)} : (pushB ls ps n b).length ≤ ps.length + 1 := by
  unfold pushB; split
  · simp
  · omega
theorem crash_keep {ls : List (List (BitVec 8))} {ps : List WriteT} {q : List (BitVec 8)} {m : Int} (h : okW ps m) : ∀ k, k ≤ ps.length → (crashK ls ps q k).getD 3 [] = ls.getD 3 []
  | 0, _ => rfl
  | k + 1, hk => by
    show (putW (crashK ls ps q k) (ps.getD k write0) _).getD 3 [] = _
    have h1 := h k oM
    unfold putW
    refine Eq.trans ?_ (crash_keep (ls := ls) (q := q) h k oM)
    simp only [List.getD_eq_getElem?_getD] at h1 ⊢
    rw [List.getElem?_set_ne oM]
/-- What was synced stays. -/
theorem lasts_law {b : List (BitVec 8)} {pk : List WriteT} {qs : List (BitVec 8)} {L0 L1 L2 : List (List (BitVec 8))} (hb : b.length = 64) (h0 : L0 = List.replicate 8 (List.replicate 64 0)) (h1 : L1 = crashB L0 [⟨3, b⟩] [1#8]) (h2 : L2 = crashB L1 pk qs) (hok : okW pk (L1.length : Int)) :
    readB L2 [] 3 = b := by
  have e1 : L1.getD 3 [] = b ∧ L1.length = 8 := by
    rw [h1, crash_one, h0]
    have : cutN 1#8 = 64 := rfl
    rw [this, List.take_of_length_le oM]
    simp [List.set, List.replicate]
  have hl : L2.length = 8 := by rw [h2, crashB_len]; exact e1.2
  rw [read_ok (inB_of oM oM), h2]
  show (crashK L1 pk (picksB qs) pk.length).getD 3 [] = b
  rw [crash_keep hok _ (Nat.le_refl _)]; exact e1.1
theorem opens_call : Opens Try.prog 55 (fun w cs => ∃ a : CallT, cs = encC a ∧ (encC a).length = 67 ∧ Rd (blks w) u8 (slv a.picks) a.picks.2) :=
  (opens_sx4 (k0 := 1) (k1 := 1) (k2 := 64) (k3 := 1) uT55 (by kernel_rfl) rfl ⟨rfl, rfl, rfl, rfl⟩ ⟨by kernel_rfl, by kernel_rfl, by kernel_rfl, by kernel_rfl⟩ (opens_i64 uT3) (opens_i64 uT3) (opens_arr1 (f := u8) uT43 (by kernel_rfl) (by kernel_rfl) (opens_u8 uT5)) (opens_bytes1 uT24 (by kernel_rfl) (opens_u8 uT5))).mono
    (by rintro w cs ⟨c0, c1, c2, c3, rfl, ⟨n0, rfl, _⟩, ⟨n1, rfl, _⟩, ⟨l, rfl, hl⟩, ⟨v, rfl, s, rfl, h1, _⟩⟩; exact ⟨⟨n0, n1, l, s⟩, by simp [encC], by simp [encC, hl], h1⟩)
attribute [local irreducible] crashB crashK pushB readB inB errB cutN seenW okW

theorem c_dpend (bd : Nat) (vl : Value) (ls : List (List (BitVec 8))) (vp : Value) (ps : List WriteT) (w0 : World)  (hd : blks w0 bd = some (.cells #[vl, vp] 88 (0, 0))) (hrl : RdK (blks w0) (encA u8) 64 vl ls) (hrp : RdK (blks w0) encW 65 vp ps) : CallsR Try.prog 29 #[(ptr bd 0)] w0 (fun r w1 => r = (i64 ((ps : List WriteT).length : Int)) ∧ Ext w0 w1) := by
 refine callsR_of_cw (args := [(ptr bd 0)]) Try.func29 rfl Try.ntmps29 Try.results29 rfl ?_
 have hm0 : Mem w0 (restOf w0) [] := Mem.of_world w0
 refine sR <| rw_q rfl (ev_assign (v := (i64 0)) rfl) ?_
 refine rN (sR ?_)
 refine rw_q rfl (ev_move (v := (ptr bd 0)) rfl) <| rw_q rfl (ev_nilCheck rfl) <| rw_q rfl (ev_fa (r := 1) uT88 rfl (by first | rfl | omega) ti86 rfl rfl) <| rw_q (v := vp) rfl (ev_load1 uT86 rfl rfl (hm0.rest _ _ hd) rfl) <| rw_q (v := (i64 (ps.length : Int))) rfl (ev_len_rk (RdK.ofRest hrp hm0) uT86 rfl) <| rw_q rfl (ev_assign (v := (i64 (ps.length : Int))) rfl) ?_
 refine rN (cw_ret ?_)
 refine fnPost_ret [(i64 (ps.length : Int))] ⟨rfl, trivial⟩ ?_
 exact ⟨rfl, hm0.toExt⟩

theorem law_lasts (b : List (BitVec 8)) (vc : Value) (lc : List CallT) (vq : Value) (qs : List (BitVec 8)) (w0 : World)  (hbl : b.length = 64) (hrc : RdK (blks w0) encC 67 vc lc) (hqc : ∀ a ∈ lc, Rd (blks w0) u8 (slv a.picks) a.picks.2) (hlc : lc.length ≤ 9223372036854775807) (hrq : Rd (blks w0) u8 vq qs) (hlq : qs.length ≤ 9223372036854775807) : CallsR Try.prog 7 #[(agg u8 b), vc, vq] w0 (fun r w1 => r = bl true ∧ RowKit.Below w0.heap.size w0 w1) := by
 refine callsR_of_cw (args := [(agg u8 b), vc, vq]) Try.func7 rfl Try.ntmps7 Try.results7 rfl ?_
 have hm0 : Mem w0 (restOf w0) [] := Mem.of_world w0
 refine sR <| rw_c rfl (or_box_agg (f := u8) (l := b) hm0 rfl) ?_
 rintro _ w1 ⟨b3, rfl, _ew1, hm1⟩
 refine rw_q rfl (ev_assign (v := (bl false)) rfl) ?_
 refine rN (cw_seq (sR ?_))
 refine rw_c rfl (opR_call Try.func23 bd23 nm23 (args0) (c_speaks14 _)) ?_
 rintro _ w2 ⟨rfl, _ew2⟩
 have hm2 := hm1.ext _ew2
 refine rw_q (v := (bl false)) rfl (ev_not (b := true) rfl) <| rN <| cw_cond_f rfl (by decide) ?_
 refine cw_skip (kThen_normal (cw_seq (sR ?_)))
 refine rM rfl (v := vc) rfl <| rw_q (v := (i64 (lc.length : Int))) rfl (ev_len_rk (RdK.ofRest hrc hm2) uT53 rfl) <| rw_q rfl (ev_i64_gtr (b := 100) rfl rfl) <| rw_q rfl (ev_move (v := (bl (decide (100 < (lc.length : Int))))) rfl) ?_
 rcases Bool.eq_false_or_eq_true (decide (100 < (lc.length : Int))) with hb4 | hb4
 · -- true
   have hb4p := of_decide_eq_true hb4
   refine rw_gn (s := 18) rfl rfl hb4 rfl <| rw_gn (s := 18) rfl rfl hb4 rfl <| rw_gn (s := 18) rfl rfl hb4 rfl <| rw_q rfl (ev_pick_tk rfl hb4 rfl) <| rN <| cw_cond_t rfl (by decide) ?_
   refine sR <| rw_q rfl (ev_assign (v := (bl true)) rfl) ?_
   refine rN (cw_ret (kThen_ret ?_))
   refine fnPost_ret [(bl true)] ⟨rfl, trivial⟩ ?_
   exact ⟨rfl, Mem.below w0 hm2⟩
 · -- false
   have hb4p := of_decide_eq_false hb4
   refine rw_gyq (s := 18) rfl rfl hb4 rfl (ev_move (v := vq) rfl) <| rw_gyq (s := 18) rfl rfl hb4 rfl (ev_len_rd (Rd.ofRest hrq hm2) uT24 rfl) <| rw_gyq (s := 18) rfl rfl hb4 rfl (ev_i64_gtr (b := 300) rfl rfl) <| rw_q rfl (ev_pick_fk rfl hb4 rfl) <| rN ?_
   refine cw_cond rfl (fun hc5 => ?_) (fun hc5 => ?_)
   · -- true
     have hc5p := of_decide_eq_true hc5
     refine sR <| rw_q rfl (ev_assign (v := (bl true)) rfl) ?_
     refine rN (cw_ret (kThen_ret ?_))
     refine fnPost_ret [(bl true)] ⟨rfl, trivial⟩ ?_
     exact ⟨rfl, Mem.below w0 hm2⟩
   · -- false
     have hc5p := of_decide_eq_false hc5
     refine cw_skip (kThen_normal (sR ?_))
     refine rw_c rfl (opR_call Try.func24 bd24 nm24 (args1 rfl) (c_dnew (8 : Int) _ sL)) ?_
     rintro _ w6 ⟨bdq7, vlq7, Hlq7, rfl, glq7, k_w6⟩
     have hm6 : Mem w6 (restOf w0) ([(bdq7, .cells #[vlq7, (Value.slice none 0 0)] 88 (0, 0))] ++ (Hlq7 ++ ([(b3, .cells (cl u8 b) 43 (0, 0))]))) := (by
       have hT := Mem.new (H := [(b3, .cells (cl u8 b) 43 (0, 0))]) (H' := _) hm2 k_w6
       simp only [List.append_assoc, List.cons_append, List.nil_append, List.append_nil] at hT ⊢
       exact hT)
     obtain ⟨L0, hL0⟩ : ∃ q : List (List (BitVec 8)), q = (List.replicate (8 : Int).toNat (List.replicate 64 0)) := ⟨_, rfl⟩
     have hL0l : L0.length = 8 := by rw [hL0]; rfl
     have gg8 : GrowK (encA u8) 64 43 vlq7 L0 Hlq7 := GrowK.cast glq7 (hL0.symm)
     have hin_L0_3 : inB L0 3 = true := inB_of oM oM
     refine rw_q rfl (ev_move (v := (Value.tuple #[(ptr bdq7 0), (i64 0)])) rfl) <| rw_q (v := (ptr bdq7 0)) rfl (ev_extract rfl rfl) <| rw_q (v := (i64 0)) rfl (ev_extract rfl rfl) <| rw_q rfl (ev_assign (v := (ptr bdq7 0)) rfl) <| rw_q rfl (ev_assign (v := (i64 0)) rfl) <| rN ?_
     refine CW.abs (fun g => g 0 = (agg u8 b) ∧ g 1 = vc ∧ g 2 = vq ∧ g 3 = (ptr b3 0) ∧ g 6 = (bl false) ∧ g 7 = (ptr bdq7 0) ∧ g 8 = (i64 0) ∧ g 14 = (bl false) ∧ g 22 = (bl (decide (300 < (qs.length : Int)))) ∧ True) ⟨rfl, rfl, rfl, rfl, rfl, rfl, rfl, rfl, rfl, trivial⟩ ?_
     rintro fr9 ⟨s0, s1, s2, s3, s6, s7, s8, s14, s22, _⟩
     refine cw_seq (sR ?_)
     refine rM rfl s8 <| rw_q rfl (ev_i64_neq (b := 0) rfl rfl) <| rw_q rfl (ev_move (v := (bl (0 != 0))) rfl) ?_
     have hd10 : (0 != 0) = false := told_ne rfl
     refine rw_gyq (s := 29) rfl rfl hd10 rfl (ev_move s7) <| rw_gyq (s := 29) rfl rfl hd10 rfl (ev_ptr_nil_eql uT44 rfl rfl) <| rw_q rfl (ev_pick_fk rfl hd10 rfl) <| rw_q rfl (ev_move (v := (bl false)) rfl) <| rw_gyq (s := 33) rfl rfl rfl rfl (ev_move s7) <| rw_gyq (s := 33) rfl rfl rfl rfl (ev_loadA uT43 rfl ti43 s3 ((Mem.pick2 [_] Hlq7 [_] _ hm6)).h0 (by rw [size_cl]; first | omega | (simp only [List.length_set, List.length_append, List.length_replicate, List.length_map, List.length_cons, List.length_nil]; omega) | (simp; done) | (simp; omega) | decide)) ?_
     have hF12 : Mem w6 (restOf w0) (([(bdq7, .cells #[vlq7, (Value.slice none 0 0)] 88 (0, 0))] ++ (Hlq7 ++ ([] ++ ([])))) ++ ([(b3, .cells (cl u8 b) 43 (0, 0))])) := by
       have hT := (Mem.pick Hlq7 [_] _ (Mem.pick [_] Hlq7 _ hm6))
       simp only [List.append_assoc, List.cons_append, List.nil_append, List.append_nil] at hT ⊢
       exact hT
     refine rw_gy (s := 33) rfl rfl rfl rfl (opR_call Try.func25 bd25 nm25 (args3 rfl rfl rfl) (c_dwrite bdq7 vlq7 L0 Hlq7 (Value.slice none 0 0) ([]) ([]) (3 : Int) b _ _ (Mem.give hF12) gg8 (GrowK.none encW 65 91) sL sL sL)) ?_
     rintro _ w11 ⟨vp2q13, Hp2q13, rfl, gp2q13, k_w11⟩
     have hm11 : Mem w11 (restOf w0) ([(bdq7, .cells #[vlq7, vp2q13] 88 (0, 0))] ++ (Hlq7 ++ (Hp2q13 ++ ([(b3, .cells (cl u8 b) 43 (0, 0))])))) := (by
       have hT := Mem.back hF12 k_w11
       simp only [List.append_assoc, List.cons_append, List.nil_append, List.append_nil] at hT ⊢
       exact hT)
     have gg14 : GrowK encW 65 91 vp2q13 ([WriteT.mk 3 b]) Hp2q13 := GrowK.cast gp2q13 (push_ok (ps := []) hin_L0_3)
     refine rw_gyq (s := 33) rfl rfl rfl rfl (ev_i64_neq (b := 0) rfl rfl) <| rw_q rfl (ev_pick_f rfl rfl) <| rN ?_
     have hd15 : ((errB L0 (3 : Int)) != 0) = false := told_ne (err_ok hin_L0_3)
     refine cw_cond_f rfl hd15 ?_
     refine cw_skip (kThen_normal (sR ?_))
     refine rM rfl s7 ?_
     have hF17 : Mem w11 (restOf w0) (([(bdq7, .cells #[vlq7, vp2q13] 88 (0, 0))] ++ (Hlq7 ++ (Hp2q13 ++ ([])))) ++ ([(b3, .cells (cl u8 b) 43 (0, 0))])) := by
       have hT := (Mem.pick2 Hlq7 Hp2q13 [_] _ (Mem.pick2 Hp2q13 [_] Hlq7 _ (Mem.pick2 [_] Hlq7 Hp2q13 _ hm11)))
       simp only [List.append_assoc, List.cons_append, List.nil_append, List.append_nil] at hT ⊢
       exact hT
     refine rw_c rfl (opR_call Try.func26 bd26 nm26 (args1 rfl) (c_dsync bdq7 vlq7 L0 Hlq7 vp2q13 ([WriteT.mk 3 b]) Hp2q13 _ _ (Mem.give hF17) gg8 gg14 (hat_one oM oM) sL sL)) ?_
     rintro _ w16 ⟨Hl2q18, rfl, gl2q18, k_w16⟩
     have hm16 : Mem w16 (restOf w0) ([(bdq7, .cells #[vlq7, (Value.slice none 0 0)] 88 (0, 0))] ++ (Hl2q18 ++ ([(b3, .cells (cl u8 b) 43 (0, 0))]))) := (by
       have hT := Mem.back hF17 k_w16
       simp only [List.append_assoc, List.cons_append, List.nil_append, List.append_nil] at hT ⊢
       exact hT)
     obtain ⟨L1, hL1⟩ : ∃ q : List (List (BitVec 8)), q = (crashB L0 ([WriteT.mk 3 b]) [1#8]) := ⟨_, rfl⟩
     have hL1l : L1.length = 8 := by rw [hL1]; exact crashB_len.trans hL0l
     have gg19 : GrowK (encA u8) 64 43 vlq7 L1 Hl2q18 := GrowK.cast gl2q18 (hL1.symm)
     refine rN (cw_seq (sR ?_))
     refine rM rfl s1 <| rw_q (v := (i64 (lc.length : Int))) rfl (ev_len_rk (RdK.ofRest hrc hm16) uT53 rfl) <| rw_q rfl (ev_move (v := (i64 0)) rfl) <| rN ?_
     refine CW.abs (fun g => g 0 = (agg u8 b) ∧ g 1 = vc ∧ g 2 = vq ∧ g 3 = (ptr b3 0) ∧ g 6 = (bl false) ∧ g 7 = (ptr bdq7 0) ∧ g 8 = (i64 0) ∧ g 14 = (bl false) ∧ g 22 = (bl (decide (300 < (qs.length : Int)))) ∧ g 38 = (bl ((errB L0 (3 : Int)) != 0)) ∧ g 41 = vc ∧ g 42 = (i64 (lc.length : Int)) ∧ g 43 = (i64 0) ∧ True) ⟨s0, s1, s2, s3, s6, s7, s8, s14, s22, rfl, rfl, rfl, rfl, trivial⟩ ?_
     rintro fr20 ⟨s0, s1, s2, s3, s6, s7, s8, s14, s22, s38, s41, s42, s43, _⟩
     refine cw_block ?_
     refine cw_loop (fun g wv => ∃ (k : Nat) (vk : Value) (pk : List WriteT) (Hk : List (Nat × Obj)), (k ≤ lc.length) ∧ (GrowK encW 65 91 vk pk Hk) ∧ (okW pk (L1.length : Int)) ∧ (pk.length ≤ k) ∧ g 0 = (agg u8 b) ∧ g 1 = vc ∧ g 2 = vq ∧ g 3 = (ptr b3 0) ∧ g 6 = (bl false) ∧ g 7 = (ptr bdq7 0) ∧ g 8 = (i64 0) ∧ g 14 = (bl false) ∧ g 22 = (bl (decide (300 < (qs.length : Int)))) ∧ g 38 = (bl ((errB L0 (3 : Int)) != 0)) ∧ g 41 = vc ∧ g 42 = (i64 (lc.length : Int)) ∧ g 43 = (i64 (k : Int)) ∧ Mem wv (restOf w0) ([(bdq7, .cells #[vlq7, vk] 88 (0, 0))] ++ (Hl2q18 ++ (Hk ++ ([(b3, .cells (cl u8 b) 43 (0, 0))]))))) (fun g wv => ((lc.length : Int) - RowKit.intOf (g 43)).toNat) ?_ ?_
     · exact ⟨0, (.slice none 0 0), [], [], (Nat.zero_le _), (GrowK.none encW 65 91), okW_nil, (Nat.le_refl _), s0, s1, s2, s3, s6, s7, s8, s14, s22, s38, s41, s42, s43, (by
       have hT := hm16
       simp only [List.append_assoc, List.cons_append, List.nil_append, List.append_nil] at hT ⊢
       exact hT)⟩
     · rintro fr21 w22 ⟨k, vk, pk, Hk, hk, gk, hok, hpk, s0, s1, s2, s3, s6, s7, s8, s14, s22, s38, s41, s42, s43, hm22⟩
       have z43 := s43
       refine sR <| rw_q rfl (ev_i64_lss s43 s42) ?_
       refine rN (cw_seq ?_)
       refine cw_cond rfl (fun hc23 => ?_) (fun hc23 => ?_)
       · -- true
         have hc23p := of_decide_eq_true hc23
         have hbk := encC_b hrc (show k < lc.length by omega)
         refine cw_skip (kThen_normal (cw_seq (cw_block (sR ?_))))
         refine rw_q rfl (ev_indexAddr_rk (i := (k : Int)) (RdK.ofRest hrc hm22) uT53 ti55 s41 s43 oM sL) <| rw_q (v := (Value.agg (segs [[(i64 ((lc.getD k call0).what_))], [(i64 ((lc.getD k call0).n_))], ((lc.getD k call0).b).map u8, [(slv (lc.getD k call0).picks)]]))) rfl (ev_load_rkW (i := (k : Int)) (dflt := call0) (cs := (segs [[(i64 ((lc.getD k call0).what_))], [(i64 ((lc.getD k call0).n_))], ((lc.getD k call0).b).map u8, [(slv (lc.getD k call0).picks)]])) (RdK.ofRest hrc hm22) sL uT55 rfl ti55 rfl rfl rfl) <| rw_c rfl (or_allocX hm22 ti55) ?_
         rintro _ w24 ⟨b10, rfl, _ew24, hm24⟩
         refine rw_n (or_storeW_segs [[(i64 ((lc.getD k call0).what_))], [(i64 ((lc.getD k call0).n_))], ((lc.getD k call0).b).map u8, [(slv (lc.getD k call0).picks)]] ti55 rfl rfl (fl_cons (n := 1) (m := 66) (k := 67) rfl (fl_cons (n := 1) (m := 65) (k := 66) rfl (fl_cons (n := 64) (m := 1) (k := 65) (by first | rfl | (rw [List.length_map]; first | omega | (simp; done) | (simp; omega))) (fl_cons (n := 1) (m := 0) (k := 1) rfl fl_nil rfl) rfl) rfl) rfl) (so_cons (one_cons (i64_one _) one_nil) (so_cons (one_cons (i64_one _) one_nil) (so_cons (encA_one u8_one _) (so_cons (one_cons rfl one_nil) so_nil)))) hm24.h0 (by rw [segs_size]; exact (fl_cons (n := 1) (m := 66) (k := 67) rfl (fl_cons (n := 1) (m := 65) (k := 66) rfl (fl_cons (n := 64) (m := 1) (k := 65) (by first | rfl | (rw [List.length_map]; first | omega | (simp; done) | (simp; omega))) (fl_cons (n := 1) (m := 0) (k := 1) rfl fl_nil rfl) rfl) rfl) rfl)) rfl) ?_
         rintro _ w25 uq25
         have hm25 : Mem w25 (restOf w0) ([(b10, .cells (segs [[(i64 ((lc.getD k call0).what_))], [(i64 ((lc.getD k call0).n_))], ((lc.getD k call0).b).map u8, [(slv (lc.getD k call0).picks)]]) 55 (0, 0)), (bdq7, .cells #[vlq7, vk] 88 (0, 0))] ++ (Hl2q18 ++ (Hk ++ ([(b3, .cells (cl u8 b) 43 (0, 0))])))) := hm24.upd0 uq25
         refine rN (sR ?_)
         refine rw_q rfl (ev_fa (r := 1) uT55 rfl (by first | rfl | omega) ti3 rfl rfl) <| rw_q (v := (i64 ((lc.getD k call0).n_))) rfl (ev_load_segv (v := (i64 ((lc.getD k call0).n_))) [[(i64 ((lc.getD k call0).what_))]] [((lc.getD k call0).b).map u8, [(slv (lc.getD k call0).picks)]] uT3 rfl rfl hm25.h0 (fl_cons (n := 1) (m := 0) (k := 1) rfl fl_nil rfl)) <| rw_q rfl (ev_i64_neq (b := 3) rfl rfl) <| rN ?_
         refine cw_cond rfl (fun hc26 => ?_) (fun hc26 => ?_)
         · -- true
           have hc26p := bne_iff_ne.1 hc26
           refine cw_region <| rM rfl s7 <| rw_q rfl (ev_fa (r := 1) uT55 rfl (by first | rfl | omega) ti3 rfl rfl) <| rw_q (v := (i64 ((lc.getD k call0).n_))) rfl (ev_load_segv (v := (i64 ((lc.getD k call0).n_))) [[(i64 ((lc.getD k call0).what_))]] [((lc.getD k call0).b).map u8, [(slv (lc.getD k call0).picks)]] uT3 rfl rfl hm25.h0 (fl_cons (n := 1) (m := 0) (k := 1) rfl fl_nil rfl)) <| rw_q rfl (ev_fa (r := 2) uT55 rfl (by first | rfl | omega) ti43 rfl rfl) <| rw_q (v := (agg u8 ((lc.getD k call0).b))) rfl (ev_load_seg1 (f := u8) [[(i64 ((lc.getD k call0).what_))], [(i64 ((lc.getD k call0).n_))]] [[(slv (lc.getD k call0).picks)]] ((lc.getD k call0).b) uT43 rfl ti43 rfl hm25.h0 (fl_cons (n := 1) (m := 1) (k := 2) rfl (fl_cons (n := 1) (m := 0) (k := 1) rfl fl_nil rfl) rfl) (by first | rfl | omega | (simp; done) | (simp; omega))) ?_
           have hF28 : Mem w25 (restOf w0) (([(bdq7, .cells #[vlq7, vk] 88 (0, 0))] ++ (Hl2q18 ++ (Hk ++ ([])))) ++ ([(b10, .cells (segs [[(i64 ((lc.getD k call0).what_))], [(i64 ((lc.getD k call0).n_))], ((lc.getD k call0).b).map u8, [(slv (lc.getD k call0).picks)]]) 55 (0, 0)), (b3, .cells (cl u8 b) 43 (0, 0))])) := by
             have hT := (Mem.pick3 Hl2q18 Hk [_] [_] _ (Mem.pick2 Hk [_, _] Hl2q18 _ (Mem.pick2 [_, _] Hl2q18 Hk _ hm25)))
             simp only [List.append_assoc, List.cons_append, List.nil_append, List.append_nil] at hT ⊢
             exact hT
           refine rw_c rfl (opR_call Try.func25 bd25 nm25 (args3 rfl rfl rfl) (c_dwrite bdq7 vlq7 L1 Hl2q18 vk pk Hk ((lc.getD k call0).n_) ((lc.getD k call0).b) _ _ (Mem.give hF28) gg19 gk sL sL sL)) ?_
           rintro _ w27 ⟨vp2q29, Hp2q29, rfl, gp2q29, k_w27⟩
           have hm27 : Mem w27 (restOf w0) ([(bdq7, .cells #[vlq7, vp2q29] 88 (0, 0))] ++ (Hl2q18 ++ (Hp2q29 ++ ([(b10, .cells (segs [[(i64 ((lc.getD k call0).what_))], [(i64 ((lc.getD k call0).n_))], ((lc.getD k call0).b).map u8, [(slv (lc.getD k call0).picks)]]) 55 (0, 0)), (b3, .cells (cl u8 b) 43 (0, 0))])))) := (by
             have hT := Mem.back hF28 k_w27
             simp only [List.append_assoc, List.cons_append, List.nil_append, List.append_nil] at hT ⊢
             exact hT)
           refine rw_nil (kBlk_normal (cw_region ?_))
           refine rw_q rfl (ev_i64_add (b := 1) s43 rfl oM oM) <| rw_q rfl (ev_move (v := (i64 ((k : Int) + 1))) rfl) <| rN ?_
           have hm30 := Mem.drop ([(b10, .cells (segs [[(i64 ((lc.getD k call0).what_))], [(i64 ((lc.getD k call0).n_))], ((lc.getD k call0).b).map u8, [(slv (lc.getD k call0).picks)]]) 55 (0, 0))]) _ (Mem.pick3 [_] Hl2q18 Hp2q29 [_] _ hm27)
           exact ⟨⟨(k + 1), vp2q29, (pushB L1 pk ((lc.getD k call0).n_) ((lc.getD k call0).b)), Hp2q29, oM, gp2q29, (push_okW hok (by simpa using hc26)), (Nat.le_trans push_len oM), s0, s1, s2, s3, s6, s7, s8, s14, s22, s38, s41, s42, rfl, hm30⟩, meas (rfl) z43 oM oM⟩
         · -- false
           have hc26p := eq_of_bne_false hc26
           refine cw_skip (kBlk_normal (cw_region ?_))
           refine rw_q rfl (ev_i64_add (b := 1) s43 rfl oM oM) <| rw_q rfl (ev_move (v := (i64 ((k : Int) + 1))) rfl) <| rN ?_
           have hm31 := Mem.drop ([(b10, .cells (segs [[(i64 ((lc.getD k call0).what_))], [(i64 ((lc.getD k call0).n_))], ((lc.getD k call0).b).map u8, [(slv (lc.getD k call0).picks)]]) 55 (0, 0))]) _ hm25
           exact ⟨⟨(k + 1), vk, pk, Hk, oM, gk, hok, oM, s0, s1, s2, s3, s6, s7, s8, s14, s22, s38, s41, s42, rfl, hm31⟩, meas (rfl) z43 oM oM⟩
       · -- false
         have hc23p := of_decide_eq_false hc23
         refine cw_exit ?_
         refine kThen_exit (kThen_exit (kBlk_hit ?_))
         refine sR <| rM rfl s7 <| rM rfl s2 ?_
         have hF33 : Mem w22 (restOf w0) (([(bdq7, .cells #[vlq7, vk] 88 (0, 0))] ++ (Hl2q18 ++ (Hk ++ ([])))) ++ ([(b3, .cells (cl u8 b) 43 (0, 0))])) := by
           have hT := (Mem.pick2 Hl2q18 Hk [_] _ (Mem.pick2 Hk [_] Hl2q18 _ (Mem.pick2 [_] Hl2q18 Hk _ hm22)))
           simp only [List.append_assoc, List.cons_append, List.nil_append, List.append_nil] at hT ⊢
           exact hT
         refine rw_c rfl (opR_call Try.func27 bd27 nm27 (args2 rfl rfl) (c_dcrash bdq7 vlq7 L1 Hl2q18 vk pk Hk vq qs _ _ (Mem.give hF33) gg19 gk (Rd.addRest hF33 hrq) (okW_hat hok) sL sL sL)) ?_
         rintro _ w32 ⟨Hl2q34, rfl, gl2q34, k_w32⟩
         have hm32 : Mem w32 (restOf w0) ([(bdq7, .cells #[vlq7, (Value.slice none 0 0)] 88 (0, 0))] ++ (Hl2q34 ++ ([(b3, .cells (cl u8 b) 43 (0, 0))]))) := (by
           have hT := Mem.back hF33 k_w32
           simp only [List.append_assoc, List.cons_append, List.nil_append, List.append_nil] at hT ⊢
           exact hT)
         obtain ⟨L2, hL2⟩ : ∃ q : List (List (BitVec 8)), q = (crashB L1 pk qs) := ⟨_, rfl⟩
         have hL2l : L2.length = 8 := by rw [hL2]; exact crashB_len.trans hL1l
         have gg35 : GrowK (encA u8) 64 43 vlq7 L2 Hl2q34 := GrowK.cast gl2q34 (hL2.symm)
         have hin_L2_3 : inB L2 3 = true := inB_of oM oM
         have hlw := lasts_law hbl hL0 hL1 hL2 hok
         have hx3 : (readB L2 [] 3).length = 64 := by rw [hlw]; exact hbl
         refine rN (sR ?_)
         refine rM rfl s7 <| rw_c rfl (opR_call Try.func28 bd28 nm28 (args2 rfl rfl) (c_dread bdq7 vlq7 L2 (Value.slice none 0 0) ([]) (3 : Int) _ hm32.h0 (gg35.rd (Mem.pick [_] Hl2q34 _ hm32)) (RdK.nil _ _) sL sL)) ?_
         rintro _ w36 ⟨rfl, _ew36⟩
         have hm36 := hm32.ext _ew36
         refine rw_q rfl (ev_move (v := (Value.tuple #[(agg u8 (readB L2 ([]) (3 : Int))), (i64 (errB L2 (3 : Int)))])) rfl) <| rw_q (v := (agg u8 (readB L2 ([]) (3 : Int)))) rfl (ev_extract rfl rfl) <| rw_q (v := (i64 (errB L2 (3 : Int)))) rfl (ev_extract rfl rfl) <| rw_c rfl (or_alloc_agg hm36 ti43) ?_
         rintro _ w38 ⟨b11, rfl, _ew38, hm38⟩
         refine rw_n (or_store_agg (f := u8) (l := readB L2 ([]) (3 : Int)) u8_one ti43 rfl rfl sL hm38.h0 (by rw [size_cl]; first | omega | (simp only [List.length_set, List.length_append, List.length_replicate, List.length_map, List.length_cons, List.length_nil]; omega) | (simp; done) | (simp; omega) | decide) rfl) ?_
         rintro _ w39 uq39
         have hm39 := hm38.upd0 uq39
         refine rw_q rfl (ev_assign (v := (i64 (errB L2 (3 : Int)))) rfl) ?_
         refine rN (sR ?_)
         refine rw_q rfl (ev_move (v := (i64 (errB L2 (3 : Int)))) rfl) <| rw_q rfl (ev_i64_eql (b := 0) rfl rfl) <| rw_q rfl (ev_move (v := (bl ((errB L2 (3 : Int)) == 0))) rfl) ?_
         have hd40 : ((errB L2 (3 : Int)) == 0) = true := told_true (err_ok hin_L2_3)
         refine rw_gyq (s := 67) rfl rfl hd40 rfl (ev_loadA uT43 rfl ti43 rfl hm39.h0 (by rw [size_cl]; first | omega | (simp only [List.length_set, List.length_append, List.length_replicate, List.length_map, List.length_cons, List.length_nil]; omega) | (simp; done) | (simp; omega) | decide)) <| rw_gyq (s := 67) rfl rfl hd40 rfl (ev_loadA uT43 rfl ti43 s3 ((Mem.pick2 [_, _] Hl2q34 [_] _ hm39)).h0 (by rw [size_cl]; first | omega | (simp only [List.length_set, List.length_append, List.length_replicate, List.length_map, List.length_cons, List.length_nil]; omega) | (simp; done) | (simp; omega) | decide)) <| rw_gyq (s := 67) rfl rfl hd40 rfl (ev_u8arr_eql (l := readB L2 ([]) (3 : Int)) (m := b) uT43 uT5 ti5 Try.eqGuardType43 rfl rfl (by first | rfl | first | omega | (simp only [List.length_set, List.length_append, List.length_replicate, List.length_map, List.length_cons, List.length_nil]; omega) | (simp; done) | (simp; omega) | decide) (by first | rfl | first | omega | (simp only [List.length_set, List.length_append, List.length_replicate, List.length_map, List.length_cons, List.length_nil]; omega) | (simp; done) | (simp; omega) | decide)) <| rw_q rfl (ev_pick_tk rfl hd40 rfl) <| rw_q rfl (ev_move (v := (bl ((readB L2 ([]) (3 : Int)) == b))) rfl) ?_
         have hd41 : ((readB L2 ([]) (3 : Int)) == b) = true := told_true hlw
         refine rw_gyq (s := 72) rfl rfl hd41 rfl (ev_move s7) <| rw_gy (s := 72) rfl rfl hd41 rfl (opR_call Try.func29 bd29 nm29 (args1 rfl) (c_dpend bdq7 vlq7 L2 (Value.slice none 0 0) ([]) _ hm39.h1 (gg35.rd (Mem.pick [_, _] Hl2q34 _ hm39)) (RdK.nil _ _))) ?_
         rintro _ w42 ⟨rfl, _ew42⟩
         have hm42 := hm39.ext _ew42
         refine rw_gyq (s := 72) rfl rfl hd41 rfl (ev_i64_eql (b := 0) rfl rfl) <| rw_q rfl (ev_pick_tk rfl hd41 rfl) <| rw_q rfl (ev_assign (v := (bl (((([]) : List WriteT).length : Int) == 0))) rfl) <| rN ?_
         refine CW.abs (fun g => g 0 = (agg u8 b) ∧ g 1 = vc ∧ g 2 = vq ∧ g 3 = (ptr b3 0) ∧ g 6 = (bl (((([]) : List WriteT).length : Int) == 0)) ∧ g 7 = (ptr bdq7 0) ∧ g 8 = (i64 0) ∧ g 11 = (ptr b11 0) ∧ g 12 = (i64 (errB L2 (3 : Int))) ∧ g 14 = (bl false) ∧ g 22 = (bl (decide (300 < (qs.length : Int)))) ∧ g 38 = (bl ((errB L0 (3 : Int)) != 0)) ∧ g 41 = vc ∧ g 42 = (i64 (lc.length : Int)) ∧ g 43 = (i64 (k : Int)) ∧ g 44 = (bl (decide ((k : Int) < (lc.length : Int)))) ∧ True) ⟨s0, s1, s2, s3, rfl, s7, s8, rfl, rfl, s14, s22, s38, s41, s42, s43, rfl, trivial⟩ ?_
         rintro fr44 ⟨s0, s1, s2, s3, s6, s7, s8, s11, s12, s14, s22, s38, s41, s42, s43, s44, _⟩
         refine cw_ret <| fnPost_ret [(bl (((([]) : List WriteT).length : Int) == 0))] ⟨s6, trivial⟩ ?_
         have hd45 : (((([]) : List WriteT).length : Int) == 0) = true := rfl
         exact ⟨congrArg bl hd45, Mem.below w0 hm42⟩


end Go.Proofs.Ytfmjfojhcmmgcaa
