/- Contracts: the document's way to do pairs; whether a store is some values. Conditions: none beyond those that each theorem states. -/
import Derived.Test.YtfbnhoolkajebaaSoI
namespace Go.Proofs.Ytfbnhoolkajebaa
set_option linter.unusedVariables false
set_option linter.unusedSimpArgs false
/-! The document's way to do pairs. -/
theorem pair_eta (p : PairT) : PairT.mk p.key (toSl (slv p.val) p.val.2) p.gone = p := rfl
theorem doK_0 {S : List KV} {l : List PairT} : S = doK S l 0 := rfl
theorem tail_at {α : Type} {l : List α} {X : Int} {n : Nat} (hX : X = (n : Int)) : (l.drop X.toNat).take ((l.length : Int).toNat - X.toNat) = l.drop n := by
  subst hX; rw [Int.toNat_natCast, Int.toNat_natCast, List.take_of_length_le (by rw [List.length_drop]; exact Nat.le_refl _)]
theorem kv_drop {ps : List PairT} {j : Nat} (h : j < ps.length) : ps.drop j = ps.getD j pair0 :: ps.drop (j + 1) := by
  rw [List.drop_eq_getElem_cons h]; simp [List.getD_eq_getElem?_getD, h]
theorem ins_walk {ps : List PairT} {K : ByteArray} {v : List (BitVec 8)} : ∀ {j : Nat}, j ≤ ps.length → (∀ i, i < j → klt (ps.getD i pair0).key K = true) → insK (ps.map kvOf) K v = (ps.take j).map kvOf ++ insK ((ps.drop j).map kvOf) K v := by
  intro j
  induction j generalizing ps with
  | zero => intro _ _; rfl
  | succ j ih =>
    intro hj h
    match ps, hj, h with
    | p :: ps, hj, h =>
      have h0 : klt p.key K = true := h 0 oM
      have hr := ih (ps := ps) (by simpa using hj) (fun i hi => h (i + 1) oM)
      show (if klt p.key K = true then _ else _) = _
      rw [if_pos h0, hr]; rfl
theorem del_walk {ps : List PairT} {K : ByteArray} : ∀ {j : Nat}, j ≤ ps.length → (∀ i, i < j → klt (ps.getD i pair0).key K = true) → delK (ps.map kvOf) K = (ps.take j).map kvOf ++ delK ((ps.drop j).map kvOf) K := by
  intro j
  induction j generalizing ps with
  | zero => intro _ _; rfl
  | succ j ih =>
    intro hj h
    match ps, hj, h with
    | p :: ps, hj, h =>
      have h0 : klt p.key K = true := h 0 oM
      have hr := ih (ps := ps) (by simpa using hj) (fun i hi => h (i + 1) oM)
      show (if klt p.key K = true then _ else _) = _
      rw [if_pos h0, hr]; rfl
section
variable {ps : List PairT} {K : ByteArray} {v : List (BitVec 8)} {j : Nat} (hj : j ≤ ps.length) (h : ∀ i, i < j → klt (ps.getD i pair0).key K = true)
include hj h
theorem ins_eq (hl : j < ps.length) (hn : klt (ps.getD j pair0).key K = false) (he : (ps.getD j pair0).key = K) : insK (ps.map kvOf) K v = (ps.take j).map kvOf ++ (K, v) :: (ps.drop (j + 1)).map kvOf := by
  rw [ins_walk hj h, kv_drop hl]
  show _ ++ (if klt (ps.getD j pair0).key K = true then _ else if (ps.getD j pair0).key = K then _ else _) = _
  rw [if_neg (by rw [hn]; decide), if_pos he]
theorem ins_ne (hn : j = ps.length ∨ (klt (ps.getD j pair0).key K = false ∧ (ps.getD j pair0).key ≠ K)) : insK (ps.map kvOf) K v = (ps.take j).map kvOf ++ (K, v) :: (ps.drop j).map kvOf := by
  rw [ins_walk hj h]
  rcases hn with rfl | ⟨h1, h2⟩
  · rw [List.drop_length]; rfl
  · rcases Nat.lt_or_ge j ps.length with hl | hl
    · rw [kv_drop hl]
      show _ ++ (if klt (ps.getD j pair0).key K = true then _ else if (ps.getD j pair0).key = K then _ else _) = _
      rw [if_neg (by rw [h1]; decide), if_neg h2]; rfl
    · obtain rfl : j = ps.length := by omega
      rw [List.drop_length]; rfl
theorem del_eq (hl : j < ps.length) (hn : klt (ps.getD j pair0).key K = false) (he : (ps.getD j pair0).key = K) : delK (ps.map kvOf) K = (ps.take j).map kvOf ++ (ps.drop (j + 1)).map kvOf := by
  rw [del_walk hj h, kv_drop hl]
  show _ ++ (if klt (ps.getD j pair0).key K = true then _ else if (ps.getD j pair0).key = K then _ else _) = _
  rw [if_neg (by rw [hn]; decide), if_pos he]
theorem del_ne (hn : j = ps.length ∨ (klt (ps.getD j pair0).key K = false ∧ (ps.getD j pair0).key ≠ K)) : delK (ps.map kvOf) K = (ps.take j).map kvOf ++ (ps.drop j).map kvOf := by
  rw [del_walk hj h]
  rcases hn with rfl | ⟨h1, h2⟩
  · rw [List.drop_length]; rfl
  · rcases Nat.lt_or_ge j ps.length with hl | hl
    · rw [kv_drop hl]
      show _ ++ (if klt (ps.getD j pair0).key K = true then _ else if (ps.getD j pair0).key = K then _ else _) = _
      rw [if_neg (by rw [h1]; decide), if_neg h2]; rfl
    · obtain rfl : j = ps.length := by omega
      rw [List.drop_length]; rfl
end
theorem pre_step {ps : List PairT} {K : ByteArray} {j : Nat} (h : ∀ i, i < j → klt (ps.getD i pair0).key K = true) (h2 : klt (ps.getD j pair0).key K = true) : ∀ i, i < j + 1 → klt (ps.getD i pair0).key K = true := fun i hi => by
  rcases Nat.lt_succ_iff_lt_or_eq.1 hi with h1 | rfl
  · exact h i h1
  · exact h2
theorem all_cut {ps : List PairT} {P : PairT → Prop} (h : ∀ a ∈ ps, P a) (j n : Nat) : ∀ a ∈ ps.take j ++ ps.drop n, P a := fun a ha => by
  rcases List.mem_append.1 ha with ha | ha
  · exact h a (List.mem_of_mem_take ha)
  · exact h a (List.mem_of_mem_drop ha)
theorem all_put {ps : List PairT} {P : PairT → Prop} (h : ∀ a ∈ ps, P a) {e : PairT} (he : P e) (j n : Nat) : ∀ a ∈ (ps.take j ++ [e]) ++ ps.drop n, P a := fun a ha => by
  rcases List.mem_append.1 ha with ha | ha
  · rcases List.mem_append.1 ha with ha | ha
    · exact h a (List.mem_of_mem_take ha)
    · obtain rfl := List.mem_singleton.1 ha; exact he
  · exact h a (List.mem_of_mem_drop ha)
/-- Values of the document: where they are from, and that none is gone. -/
def FromQ (m : Nat → Option Obj) (vs lp : List PairT) (a : PairT) : Prop := Rd m u8 (slv a.val) a.val.2 ∧ (a ∈ vs ∨ a ∈ lp) ∧ a.gone = false
/-- A slice of pairs that reads as a list where these blocks stand. -/
def RdH (m0 : Nat → Option Obj) (Hv : List (Nat × Obj)) (v : Value) (ps : List PairT) : Prop := ∀ m : Nat → Option Obj, (∀ q ∈ Hv, m q.1 = some q.2) → (∀ b o, m0 b = some o → m b = some o) → RdK m encP 3 v ps
theorem RdH.ofGrow {m0 : Nat → Option Obj} {E : TypeId} {v : Value} {ps qs : List PairT} {Hs He : List (Nat × Obj)} (h : GrowK encP 3 E v ps Hs) (e : ps = qs) : RdH m0 (Hs ++ He) v qs := fun m h1 _ => e ▸ h.rdIn fun p hp => h1 p (List.mem_append_left _ hp)
theorem keysB_all (S : List KV) : keysB S ⟨#[]⟩ = S.map (·.1) := by
  unfold keysB
  rw [List.filter_eq_self]
  intro k _
  unfold preB
  have e : (⟨#[]⟩ : ByteArray).size = 0 := rfl
  rw [e, if_pos (decide_eq_true oM)]
  rw [decide_eq_true_eq]
  have h1 : (k.extract 0 0).size = 0 := by simp
  have : (k.extract 0 0).data = #[] := Array.eq_empty_of_size_eq_zero h1
  exact congrArg ByteArray.mk this
attribute [local irreducible] natB tkN tkOk kN vN_ oneOk oneR decF decP decV decE rightB encK recP num2 num4 allR goneB encV encE encL encS doO openK openS okS doK commitF lkA keysB
set_option maxHeartbeats 2000000 in
theorem c_rdo (m0 : Nat → Option Obj) (Hv0 : List (Nat × Obj)) (vv0 : Value) (vs : List PairT) (vp : Value) (lp : List PairT) (w0 : World)  (h00 : ∀ b o, m0 b = some o → blks w0 b = some o) (hown : ∀ q ∈ Hv0, blks w0 q.1 = some q.2) (hrv0 : RdH m0 Hv0 vv0 vs) (hqv0 : ∀ a ∈ vs, Rd (blks w0) u8 (slv a.val) a.val.2) (hrp : RdK (blks w0) encP 3 vp lp) (hqp : ∀ a ∈ lp, Rd (blks w0) u8 (slv a.val) a.val.2) (hg0 : ∀ a ∈ vs, a.gone = false) (hln : vs.length ≤ 100000 ∧ lp.length ≤ 1048576) : CallsR Try.prog 40 #[vv0, vp] w0 (fun r w1 => ∃ ps Hs, ps.map kvOf = doK (vs.map kvOf) lp lp.length ∧ (∀ a ∈ ps, (a ∈ vs ∨ a ∈ lp) ∧ a.gone = false) ∧ ps.length ≤ vs.length + lp.length ∧ RdH m0 (Hs ++ Hv0) r ps ∧ Mem w1 (restOf w0) Hs) := by
 refine callsR_of_cw (args := [vv0, vp]) Try.func40 rfl Try.ntmps40 Try.results40 rfl ?_
 have hm0 : Mem w0 (restOf w0) [] := Mem.of_world w0
 have hrv1 : RdK (blks w0) encP 3 vv0 vs := hrv0 _ hown h00
 refine sR <| rw_q rfl (ev_assign (v := (Value.slice none 0 0)) rfl) ?_
 refine rN (cw_seq (sR ?_))
 refine rw_q rfl (ev_assign (v := (i64 0)) rfl) ?_
 refine rN (cw_block ?_)
 refine cw_loop (fun g wv => ∃ (k : Nat) (vv : Value) (ps : List PairT) (Hv : List (Nat × Obj)), (k ≤ lp.length) ∧ (RdH m0 (Hv ++ Hv0) vv ps) ∧ (∀ a ∈ ps, FromQ (restOf w0).blk vs lp a) ∧ (ps.map kvOf = doK (vs.map kvOf) lp k) ∧ (ps.length ≤ vs.length + k) ∧ g 0 = vv ∧ g 1 = vp ∧ g 4 = (Value.slice none 0 0) ∧ g 5 = (i64 (k : Int)) ∧ Mem wv (restOf w0) (Hv ++ ([]))) (fun g wv => ((lp.length : Int) - RowKit.intOf (g 5)).toNat) ?_ ?_
 · exact ⟨0, vv0, vs, [], (Nat.zero_le _), hrv0, (fun a h => ⟨hqv0 a h, .inl h, hg0 a h⟩), doK_0, (Nat.le_refl _), rfl, rfl, rfl, rfl, hm0⟩
 · rintro fr1 w2 ⟨k, vv, ps, Hv, hk, hrv, hQ, hkv, hpl, s0, s1, s4, s5, hm2⟩
   have z0 := s0
   have z5 := s5
   refine cw_seq (sR ?_)
   refine rM rfl s5 <| rM rfl s1 <| rw_q (v := (i64 (lp.length : Int))) rfl (ev_len_rk (RdK.ofRest hrp hm2) uT55 rfl) <| rw_q rfl (ev_i64_lss rfl rfl) <| rN ?_
   refine cw_cond rfl (fun hc3 => ?_) (fun hc3 => ?_)
   · -- true
     have hc3p := of_decide_eq_true hc3
     have hkL : k < lp.length := by omega
     have hEq := hqp _ (getD_mem (d := pair0) hkL)
     refine cw_skip (kThen_normal (cw_seq (cw_block (sR ?_))))
     refine rw_c rfl (or_buildSlice_p (c := #[]) hm2 uT55 ti79 rfl pm_nil (by kernel_rfl)) ?_
     rintro _ w4 ⟨b14, rfl, _ew4, hm4⟩
     have hm4 : Mem w4 (restOf w0) ([(b14, .cells #[] 79 (0, 0))] ++ (Hv ++ ([]))) := hm4
     refine rw_q rfl (ev_assign (v := (slc b14 0 0 0)) rfl) ?_
     refine rN (sR ?_)
     refine rw_q rfl (ev_assign (v := (i64 0)) rfl) ?_
     refine rN (cw_seq (cw_block ?_))
     refine cw_loop (fun g wv => ∃ (j : Nat) (vo : Value) (Ho : List (Nat × Obj)), (j ≤ ps.length) ∧ (∀ i, i < j → klt (ps.getD i pair0).key (lp.getD k pair0).key = true) ∧ (GrowK encP 3 79 vo (ps.take j) Ho) ∧ g 0 = vv ∧ g 1 = vp ∧ g 4 = (Value.slice none 0 0) ∧ g 5 = (i64 (k : Int)) ∧ g 6 = vo ∧ g 7 = (i64 (j : Int)) ∧ g 11 = (bl (decide ((k : Int) < (lp.length : Int)))) ∧ Mem wv (restOf w0) (Hv ++ (Ho ++ ([])))) (fun g wv => ((ps.length : Int) - RowKit.intOf (g 7)).toNat) ?_ ?_
     have hm5 := (Mem.pick [_] Hv _ hm4)
     · exact ⟨0, (slc b14 0 0 0), [(b14, .cells #[] 79 (0, 0))], (Nat.zero_le _), (fun i hi => by omega), (GrowK.of encP 3 79 b14 [] rfl (by simp)), s0, s1, s4, s5, rfl, rfl, rfl, (by
       have hT := hm5
       try simp only [List.append_assoc, List.cons_append, List.nil_append, List.append_nil] at hT ⊢
       exact hT)⟩
     · rintro fr6 w7 ⟨j, vo, Ho, hj, hlt, go, s0, s1, s4, s5, s6, s7, s11, hm7⟩
       have z6 := s6
       have z7 := s7
       refine cw_seq (cw_seq ?_)
       refine cw_draw [(0, false), (1, false), (2, false), (3, false), (4, false), (5, false), (6, false), (7, false), (8, false), (9, false), (10, false), (11, false), (12, false), (13, false), (14, false)] 15 (by kernel_rfl) <| dM rfl rfl s7 <| dM rfl rfl s0 <| dw_q (v := (i64 (ps.length : Int))) rfl rfl (fun _ _hx => ev_len_rk (hrv _ (fun q hq => (List.mem_append.1 hq).elim (fun hq => ((hm7.ext _hx)).own _ (List.mem_append_left _ hq)) (fun hq => ((hm7.ext _hx)).rest _ _ (hown _ hq))) (fun b o e => ((hm7.ext _hx)).rest b o (h00 _ _ e))) uT55 rfl) <| dw_q rfl rfl (fun _ _hx => ev_i64_lss rfl rfl) <| dw_q rfl rfl (fun _ _hx => ev_move (v := (bl (decide ((j : Int) < (ps.length : Int))))) rfl) ?_
       rcases Bool.eq_false_or_eq_true (decide ((j : Int) < (ps.length : Int))) with hb8 | hb8
       · -- true
         have hb8p := of_decide_eq_true hb8
         refine dw_gqy (s := 19) rfl rfl rfl hb8 rfl (fun _ _hx => ev_move s0) <| dw_gqy (s := 19) rfl rfl rfl hb8 rfl (fun _ _hx => ev_move s7) <| dw_gqy (s := 19) rfl rfl rfl hb8 rfl (fun _ _hx => ev_indexAddr_rk (i := (j : Int)) (hrv _ (fun q hq => (List.mem_append.1 hq).elim (fun hq => ((hm7.ext _hx)).own _ (List.mem_append_left _ hq)) (fun hq => ((hm7.ext _hx)).rest _ _ (hown _ hq))) (fun b o e => ((hm7.ext _hx)).rest b o (h00 _ _ e))) uT55 ti79 rfl rfl oM sL) <| dw_gqy (s := 19) rfl rfl rfl hb8 rfl (fun _ _hx => ev_fa_rk (i := (j : Int)) (hrv _ (fun q hq => (List.mem_append.1 hq).elim (fun hq => ((hm7.ext _hx)).own _ (List.mem_append_left _ hq)) (fun hq => ((hm7.ext _hx)).rest _ _ (hown _ hq))) (fun b o e => ((hm7.ext _hx)).rest b o (h00 _ _ e))) sL uT79 rfl (by first | rfl | omega) ti9 rfl rfl) <| dw_gqy (s := 19) rfl rfl rfl hb8 rfl (fun _ _hx => ev_load_rk1 (i := (j : Int)) (dflt := pair0) (u := (Value.string ((ps.getD j pair0).key))) (hrv _ (fun q hq => (List.mem_append.1 hq).elim (fun hq => ((hm7.ext _hx)).own _ (List.mem_append_left _ hq)) (fun hq => ((hm7.ext _hx)).rest _ _ (hown _ hq))) (fun b o e => ((hm7.ext _hx)).rest b o (h00 _ _ e))) sL uT9 rfl rfl (by decide) rfl) <| dw_gqy (s := 19) rfl rfl rfl hb8 rfl (fun _ _hx => ev_move s1) ?_
         refine dw_gqy (s := 19) rfl rfl rfl hb8 rfl (fun _ _hx => ev_move s5) <| dw_gqy (s := 19) rfl rfl rfl hb8 rfl (fun _ _hx => ev_indexAddr_rk (i := (k : Int)) (RdK.ofRest hrp (hm7.ext _hx)) uT55 ti79 rfl rfl oM sL) <| dw_gqy (s := 19) rfl rfl rfl hb8 rfl (fun _ _hx => ev_fa_rk (i := (k : Int)) (RdK.ofRest hrp (hm7.ext _hx)) sL uT79 rfl (by first | rfl | omega) ti9 rfl rfl) <| dw_gqy (s := 19) rfl rfl rfl hb8 rfl (fun _ _hx => ev_load_rk1 (i := (k : Int)) (dflt := pair0) (u := (Value.string ((lp.getD k pair0).key))) (RdK.ofRest hrp (hm7.ext _hx)) sL uT9 rfl rfl (by decide) rfl) ?_
         refine dw_nil (fun w9 _ew9 => ?_)
         have hm9 := hm7.ext _ew9
         refine rw_gyq (s := 19) rfl rfl hb8 rfl (ev_str_lss (s := (ps.getD j pair0).key) (u := (lp.getD k pair0).key) rfl rfl) <| rw_q rfl (ev_pick_tk rfl hb8 rfl) <| rN ?_
         refine CW.abs (fun g => g 0 = vv ∧ g 1 = vp ∧ g 4 = (Value.slice none 0 0) ∧ g 5 = (i64 (k : Int)) ∧ g 6 = vo ∧ g 7 = (i64 (j : Int)) ∧ g 11 = (bl (decide ((k : Int) < (lp.length : Int)))) ∧ g 31 = (bl (klt ((ps.getD j pair0).key) ((lp.getD k pair0).key))) ∧ True) ⟨s0, s1, s4, s5, s6, s7, s11, rfl, trivial⟩ ?_
         rintro fr10 ⟨s0, s1, s4, s5, s6, s7, s11, s31, _⟩
         refine cw_cond s31 (fun hc11 => ?_) (fun hc11 => ?_)
         · -- true
           refine cw_skip (kThen_normal (cw_block' (sR ?_)))
           refine rM rfl s6 <| rM rfl s0 <| rM rfl s7 <| rw_q rfl (ev_indexAddr_rk (i := (j : Int)) (hrv _ (fun q hq => (List.mem_append.1 hq).elim (fun hq => (hm9).own _ (List.mem_append_left _ hq)) (fun hq => (hm9).rest _ _ (hown _ hq))) (fun b o e => (hm9).rest b o (h00 _ _ e))) uT55 ti79 rfl rfl oM sL) <| rw_q (v := (Value.agg #[(Value.string ((ps.getD j pair0).key)), (slv (ps.getD j pair0).val), (bl ((ps.getD j pair0).gone))])) rfl (ev_load_rkA (i := (j : Int)) (dflt := pair0) (cs := #[(Value.string ((ps.getD j pair0).key)), (slv (ps.getD j pair0).val), (bl ((ps.getD j pair0).gone))]) (hrv _ (fun q hq => (List.mem_append.1 hq).elim (fun hq => (hm9).own _ (List.mem_append_left _ hq)) (fun hq => (hm9).rest _ _ (hown _ hq))) (fun b o e => (hm9).rest b o (h00 _ _ e))) sL uT79 rfl ti79 rfl rfl (by decide) rfl) <| rw_c rfl (or_buildSlice_k1 (cs := #[(Value.string ((ps.getD j pair0).key)), (slv (ps.getD j pair0).val), (bl ((ps.getD j pair0).gone))]) hm9 uT55 ti79 rfl rfl rfl rfl) ?_
           rintro _ w12 ⟨b37, rfl, _ew12, hm12⟩
           have hm12 : Mem w12 (restOf w0) ([(b37, .cells #[(Value.string ((ps.getD j pair0).key)), (slv (ps.getD j pair0).val), (bl ((ps.getD j pair0).gone))] 79 (0, 0))] ++ (Hv ++ (Ho ++ ([])))) := hm12
           refine rw_c rfl (or_appendK (enc := encP) (k := 3) (Hs := Ho) (H := [(b37, .cells #[(Value.string ((ps.getD j pair0).key)), (slv (ps.getD j pair0).val), (bl ((ps.getD j pair0).gone))] 79 (0, 0))] ++ (Hv ++ ([]))) (Mem.pick2 [_] Hv Ho _ hm12) go rfl rfl (RdK.ofOne (enc := encP) (k := 3) (a := (PairT.mk ((ps.getD j pair0).key) (toSl (slv (ps.getD j pair0).val) ((ps.getD j pair0).val.2)) ((ps.getD j pair0).gone))) hm12.h0 (by show _ = #[_, slv (toSl (slv (ps.getD j pair0).val) ((ps.getD j pair0).val.2)), _]; rw [Rd.toSl ((ps.getD j pair0).val.2) (Rd.ofRest (rdQ PairT.val (fun a h => (hQ a h).1) (k := j) sD) hm12)]) rfl) uT55 uT55 ti79 rfl rfl (fun a _ => encP_one a) sL sL) ?_
           rintro sv13 w13 ⟨Hs13, hm13, g13⟩
           replace g13 : GrowK encP 3 79 sv13 ((ps.take j) ++ ([(PairT.mk ((ps.getD j pair0).key) (toSl (slv (ps.getD j pair0).val) ((ps.getD j pair0).val.2)) ((ps.getD j pair0).gone))])) Hs13 := g13
           refine rA rfl (v := sv13) rfl ?_
           refine rN (cw_region ?_)
           refine rM rfl s7 <| rw_q rfl (ev_i64_add (b := 1) rfl rfl oM oM) <| rw_q rfl (ev_assign (v := (i64 ((j : Int) + 1))) rfl) ?_
           refine rw_nil (kBlk_normal (kThen_normal ?_))
           have hm14 := Mem.drop ([(b37, .cells #[(Value.string ((ps.getD j pair0).key)), (slv (ps.getD j pair0).val), (bl ((ps.getD j pair0).gone))] 79 (0, 0))]) _ (Mem.pick Hs13 [_] _ hm13)
           have hm15 := (Mem.pick Hs13 Hv _ hm14)
           exact ⟨⟨(j + 1), sv13, Hs13, oM, (pre_step hlt hc11), (GrowK.cast g13 (take_getD oM).symm), s0, s1, s4, s5, rfl, rfl, s11, hm15⟩, meas (rfl) z7 oM oM⟩
         · -- false
           refine cw_exit ?_
           refine kThen_exit (kThen_exit (kBlk_hit ?_))
           refine cw_seq (sR ?_)
           refine rM rfl s1 <| rM rfl s5 <| rw_q rfl (ev_indexAddr_rk (i := (k : Int)) (RdK.ofRest hrp hm9) uT55 ti79 rfl rfl oM sL) <| rw_q rfl (ev_fa_rk (i := (k : Int)) (RdK.ofRest hrp hm9) sL uT79 rfl (by first | rfl | omega) ti4 rfl rfl) <| rw_q (v := (bl ((lp.getD k pair0).gone))) rfl (ev_load_rk1 (i := (k : Int)) (dflt := pair0) (u := (bl ((lp.getD k pair0).gone))) (RdK.ofRest hrp hm9) sL uT4 rfl rfl (by decide) rfl) <| rw_q rfl (ev_not rfl) ?_
           refine rN ?_
           refine cw_cond rfl (fun hc16 => ?_) (fun hc16 => ?_)
           · -- true
             have hc16n : ((lp.getD k pair0).gone) = false := by simpa using hc16
             refine cw_region <| rM rfl s6 <| rM rfl s1 <| rM rfl s5 <| rw_q rfl (ev_indexAddr_rk (i := (k : Int)) (RdK.ofRest hrp hm9) uT55 ti79 rfl rfl oM sL) <| rw_q (v := (Value.agg #[(Value.string ((lp.getD k pair0).key)), (slv (lp.getD k pair0).val), (bl ((lp.getD k pair0).gone))])) rfl (ev_load_rkA (i := (k : Int)) (dflt := pair0) (cs := #[(Value.string ((lp.getD k pair0).key)), (slv (lp.getD k pair0).val), (bl ((lp.getD k pair0).gone))]) (RdK.ofRest hrp hm9) sL uT79 rfl ti79 rfl rfl (by decide) rfl) ?_
             refine rw_c rfl (or_buildSlice_k1 (cs := #[(Value.string ((lp.getD k pair0).key)), (slv (lp.getD k pair0).val), (bl ((lp.getD k pair0).gone))]) hm9 uT55 ti79 rfl rfl rfl rfl) ?_
             rintro _ w17 ⟨b52, rfl, _ew17, hm17⟩
             have hm17 : Mem w17 (restOf w0) ([(b52, .cells #[(Value.string ((lp.getD k pair0).key)), (slv (lp.getD k pair0).val), (bl ((lp.getD k pair0).gone))] 79 (0, 0))] ++ (Hv ++ (Ho ++ ([])))) := hm17
             refine rw_c rfl (or_appendK (enc := encP) (k := 3) (Hs := Ho) (H := [(b52, .cells #[(Value.string ((lp.getD k pair0).key)), (slv (lp.getD k pair0).val), (bl ((lp.getD k pair0).gone))] 79 (0, 0))] ++ (Hv ++ ([]))) (Mem.pick2 [_] Hv Ho _ hm17) go rfl rfl (RdK.ofOne (enc := encP) (k := 3) (a := (PairT.mk ((lp.getD k pair0).key) (toSl (slv (lp.getD k pair0).val) ((lp.getD k pair0).val.2)) ((lp.getD k pair0).gone))) hm17.h0 (by show _ = #[_, slv (toSl (slv (lp.getD k pair0).val) ((lp.getD k pair0).val.2)), _]; rw [Rd.toSl ((lp.getD k pair0).val.2) (Rd.ofRest (rdQ PairT.val hqp (k := k) sD) hm17)]) rfl) uT55 uT55 ti79 rfl rfl (fun a _ => encP_one a) sL sL) ?_
             rintro sv18 w18 ⟨Hs18, hm18, g18⟩
             replace g18 : GrowK encP 3 79 sv18 ((ps.take j) ++ ([(PairT.mk ((lp.getD k pair0).key) (toSl (slv (lp.getD k pair0).val) ((lp.getD k pair0).val.2)) ((lp.getD k pair0).gone))])) Hs18 := g18
             refine rA rfl (v := sv18) rfl ?_
             refine rN (cw_seq (cw_seq ?_))
             refine cw_draw [(0, false), (1, false), (2, false), (3, false), (4, false), (5, false), (6, false), (7, false), (8, false), (9, false), (10, false), (11, false), (12, false), (13, false), (14, false)] 15 (by kernel_rfl) <| dM rfl rfl s7 <| dM rfl rfl s0 <| dw_q (v := (i64 (ps.length : Int))) rfl rfl (fun _ _hx => ev_len_rk (hrv _ (fun q hq => (List.mem_append.1 hq).elim (fun hq => ((hm18.ext _hx)).own _ (List.mem_append_right _ (List.mem_append_right _ (List.mem_append_left _ hq)))) (fun hq => ((hm18.ext _hx)).rest _ _ (hown _ hq))) (fun b o e => ((hm18.ext _hx)).rest b o (h00 _ _ e))) uT55 rfl) <| dw_q rfl rfl (fun _ _hx => ev_i64_lss rfl rfl) <| dw_q rfl rfl (fun _ _hx => ev_move (v := (bl (decide ((j : Int) < (ps.length : Int))))) rfl) ?_
             refine dw_gqy (s := 58) rfl rfl rfl hb8 rfl (fun _ _hx => ev_move s0) <| dw_gqy (s := 58) rfl rfl rfl hb8 rfl (fun _ _hx => ev_move s7) <| dw_gqy (s := 58) rfl rfl rfl hb8 rfl (fun _ _hx => ev_indexAddr_rk (i := (j : Int)) (hrv _ (fun q hq => (List.mem_append.1 hq).elim (fun hq => ((hm18.ext _hx)).own _ (List.mem_append_right _ (List.mem_append_right _ (List.mem_append_left _ hq)))) (fun hq => ((hm18.ext _hx)).rest _ _ (hown _ hq))) (fun b o e => ((hm18.ext _hx)).rest b o (h00 _ _ e))) uT55 ti79 rfl rfl oM sL) <| dw_gqy (s := 58) rfl rfl rfl hb8 rfl (fun _ _hx => ev_fa_rk (i := (j : Int)) (hrv _ (fun q hq => (List.mem_append.1 hq).elim (fun hq => ((hm18.ext _hx)).own _ (List.mem_append_right _ (List.mem_append_right _ (List.mem_append_left _ hq)))) (fun hq => ((hm18.ext _hx)).rest _ _ (hown _ hq))) (fun b o e => ((hm18.ext _hx)).rest b o (h00 _ _ e))) sL uT79 rfl (by first | rfl | omega) ti9 rfl rfl) <| dw_gqy (s := 58) rfl rfl rfl hb8 rfl (fun _ _hx => ev_load_rk1 (i := (j : Int)) (dflt := pair0) (u := (Value.string ((ps.getD j pair0).key))) (hrv _ (fun q hq => (List.mem_append.1 hq).elim (fun hq => ((hm18.ext _hx)).own _ (List.mem_append_right _ (List.mem_append_right _ (List.mem_append_left _ hq)))) (fun hq => ((hm18.ext _hx)).rest _ _ (hown _ hq))) (fun b o e => ((hm18.ext _hx)).rest b o (h00 _ _ e))) sL uT9 rfl rfl (by decide) rfl) <| dw_gqy (s := 58) rfl rfl rfl hb8 rfl (fun _ _hx => ev_move s1) ?_
             refine dw_gqy (s := 58) rfl rfl rfl hb8 rfl (fun _ _hx => ev_move s5) <| dw_gqy (s := 58) rfl rfl rfl hb8 rfl (fun _ _hx => ev_indexAddr_rk (i := (k : Int)) (RdK.ofRest hrp (hm18.ext _hx)) uT55 ti79 rfl rfl oM sL) <| dw_gqy (s := 58) rfl rfl rfl hb8 rfl (fun _ _hx => ev_fa_rk (i := (k : Int)) (RdK.ofRest hrp (hm18.ext _hx)) sL uT79 rfl (by first | rfl | omega) ti9 rfl rfl) <| dw_gqy (s := 58) rfl rfl rfl hb8 rfl (fun _ _hx => ev_load_rk1 (i := (k : Int)) (dflt := pair0) (u := (Value.string ((lp.getD k pair0).key))) (RdK.ofRest hrp (hm18.ext _hx)) sL uT9 rfl rfl (by decide) rfl) ?_
             refine dw_nil (fun w19 _ew19 => ?_)
             have hm19 := hm18.ext _ew19
             refine rw_gyq (s := 58) rfl rfl hb8 rfl (ev_str_eql (s := (ps.getD j pair0).key) (t := (lp.getD k pair0).key) rfl rfl) <| rw_q rfl (ev_pick_tk rfl hb8 rfl) <| rN ?_
             have hm20 := Mem.drop ([(b52, .cells #[(Value.string ((lp.getD k pair0).key)), (slv (lp.getD k pair0).val), (bl ((lp.getD k pair0).gone))] 79 (0, 0))]) _ (Mem.pick Hs18 [_] _ hm19)
             refine CW.abs (fun g => g 0 = vv ∧ g 1 = vp ∧ g 4 = (Value.slice none 0 0) ∧ g 5 = (i64 (k : Int)) ∧ g 6 = sv18 ∧ g 7 = (i64 (j : Int)) ∧ g 11 = (bl (decide ((k : Int) < (lp.length : Int)))) ∧ g 31 = (bl (klt ((ps.getD j pair0).key) ((lp.getD k pair0).key))) ∧ g 46 = (bl (!((lp.getD k pair0).gone))) ∧ g 70 = (bl (decide ((ps.getD j pair0).key = (lp.getD k pair0).key))) ∧ True) ⟨s0, s1, s4, s5, rfl, s7, s11, s31, rfl, rfl, trivial⟩ ?_
             rintro fr21 ⟨s0, s1, s4, s5, s6, s7, s11, s31, s46, s70, _⟩
             refine cw_cond s70 (fun hc22 => ?_) (fun hc22 => ?_)
             · -- true
               have hc22p := of_decide_eq_true hc22
               refine cw_region <| rM rfl s7 <| rw_q rfl (ev_i64_add (b := 1) rfl rfl oM oM) <| rw_q rfl (ev_assign (v := (i64 ((j : Int) + 1))) rfl) ?_
               refine rN (cw_region ?_)
               refine rM rfl s6 <| rM rfl s0 <| rw_q rfl (ev_move (v := (i64 ((j : Int) + 1))) rfl) <| rw_q rfl (ev_slice_rk (i := (j : Int) + 1) (j := (ps.length : Int)) (hrv _ (fun q hq => (List.mem_append.1 hq).elim (fun hq => (hm20).own _ (List.mem_append_right _ (List.mem_append_left _ hq))) (fun hq => (hm20).rest _ _ (hown _ hq))) (fun b o e => (hm20).rest b o (h00 _ _ e))) uT55 ti79 rfl (optI_some (k := .i64) (i := (j : Int) + 1) rfl) (optI_none _ _) oM sL sL) <| rw_c rfl (or_appendK (enc := encP) (k := 3) (Hs := Hs18) (H := Hv ++ ([])) hm20 g18 rfl rfl (RdK.cast (l' := ((ps.drop ((j : Int) + 1 : Int).toNat).take (((ps.length : Int) : Int).toNat - ((j : Int) + 1 : Int).toNat))) (RdK.sub (i := (j : Int) + 1) (j := (ps.length : Int)) (hrv _ (fun q hq => (List.mem_append.1 hq).elim (fun hq => (hm20).own _ (List.mem_append_right _ (List.mem_append_left _ hq))) (fun hq => (hm20).rest _ _ (hown _ hq))) (fun b o e => (hm20).rest b o (h00 _ _ e))) oM sL sL) rfl) uT55 uT55 ti79 rfl rfl (fun a _ => encP_one a) sL sL) ?_
               rintro sv23 w23 ⟨Hs23, hm23, g23⟩
               replace g23 : GrowK encP 3 79 sv23 (((ps.take j) ++ ([(PairT.mk ((lp.getD k pair0).key) (toSl (slv (lp.getD k pair0).val) ((lp.getD k pair0).val.2)) ((lp.getD k pair0).gone))])) ++ ((ps.drop ((j : Int) + 1 : Int).toNat).take (((ps.length : Int) : Int).toNat - ((j : Int) + 1 : Int).toNat))) Hs23 := g23
               refine rA rfl (v := sv23) rfl ?_
               refine rw_nil (kBlk_normal (cw_region ?_))
               refine rM rfl s5 <| rw_q rfl (ev_i64_add (b := 1) rfl rfl oM oM) <| rw_q rfl (ev_assign (v := (i64 ((k : Int) + 1))) rfl) <| rN ?_
               have hnl : ((ps.take j) ++ ([(PairT.mk ((lp.getD k pair0).key) (toSl (slv (lp.getD k pair0).val) ((lp.getD k pair0).val.2)) ((lp.getD k pair0).gone))])) ++ ((ps.drop ((j : Int) + 1 : Int).toNat).take (((ps.length : Int) : Int).toNat - ((j : Int) + 1 : Int).toNat)) = (ps.take j ++ [(lp.getD k pair0)]) ++ ps.drop (j + 1) := by rw [tail_at (n := j + 1) oM, pair_eta]
               have hld : (ps.drop (j + 1)).length = ps.length - (j + 1) := List.length_drop
               have hlt1 : (ps.take j).length = j := by rw [List.length_take]; omega
               have hm24 := Mem.drop Hv _ (Mem.pick Hs23 Hv _ hm23)
               exact ⟨⟨(k + 1), sv23, ((ps.take j ++ [(lp.getD k pair0)]) ++ ps.drop (j + 1)), Hs23, oM, (RdH.ofGrow g23 hnl), (all_put hQ ⟨hEq, .inr (getD_mem hkL), (by simpa using hc16)⟩ j (j + 1)), (by rw [doK_i (by simpa using hc16), ← hkv, ins_eq hj hlt oM hc11 (of_decide_eq_true hc22)]; simp only [List.map_append, List.map_cons, List.map_nil, List.append_assoc, List.cons_append, List.nil_append]; rfl), (by simp only [List.length_append, List.length_singleton, hld, hlt1]; omega), rfl, s1, s4, rfl, hm24⟩, meas (rfl) z5 oM oM⟩
             · -- false
               have hc22p := of_decide_eq_false hc22
               refine cw_skip (kThen_normal (cw_region ?_))
               refine rM rfl s6 <| rM rfl s0 <| rM rfl s7 <| rw_q rfl (ev_slice_rk (i := (j : Int)) (j := (ps.length : Int)) (hrv _ (fun q hq => (List.mem_append.1 hq).elim (fun hq => (hm20).own _ (List.mem_append_right _ (List.mem_append_left _ hq))) (fun hq => (hm20).rest _ _ (hown _ hq))) (fun b o e => (hm20).rest b o (h00 _ _ e))) uT55 ti79 rfl (optI_some (k := .i64) (i := (j : Int)) rfl) (optI_none _ _) oM sL sL) <| rw_c rfl (or_appendK (enc := encP) (k := 3) (Hs := Hs18) (H := Hv ++ ([])) hm20 g18 rfl rfl (RdK.cast (l' := ((ps.drop ((j : Int) : Int).toNat).take (((ps.length : Int) : Int).toNat - ((j : Int) : Int).toNat))) (RdK.sub (i := (j : Int)) (j := (ps.length : Int)) (hrv _ (fun q hq => (List.mem_append.1 hq).elim (fun hq => (hm20).own _ (List.mem_append_right _ (List.mem_append_left _ hq))) (fun hq => (hm20).rest _ _ (hown _ hq))) (fun b o e => (hm20).rest b o (h00 _ _ e))) oM sL sL) rfl) uT55 uT55 ti79 rfl rfl (fun a _ => encP_one a) sL sL) ?_
               rintro sv25 w25 ⟨Hs25, hm25, g25⟩
               replace g25 : GrowK encP 3 79 sv25 (((ps.take j) ++ ([(PairT.mk ((lp.getD k pair0).key) (toSl (slv (lp.getD k pair0).val) ((lp.getD k pair0).val.2)) ((lp.getD k pair0).gone))])) ++ ((ps.drop ((j : Int) : Int).toNat).take (((ps.length : Int) : Int).toNat - ((j : Int) : Int).toNat))) Hs25 := g25
               refine rA rfl (v := sv25) rfl ?_
               refine rw_nil (kBlk_normal (cw_region ?_))
               refine rM rfl s5 <| rw_q rfl (ev_i64_add (b := 1) rfl rfl oM oM) <| rw_q rfl (ev_assign (v := (i64 ((k : Int) + 1))) rfl) <| rN ?_
               have hnl : ((ps.take j) ++ ([(PairT.mk ((lp.getD k pair0).key) (toSl (slv (lp.getD k pair0).val) ((lp.getD k pair0).val.2)) ((lp.getD k pair0).gone))])) ++ ((ps.drop ((j : Int) : Int).toNat).take (((ps.length : Int) : Int).toNat - ((j : Int) : Int).toNat)) = (ps.take j ++ [(lp.getD k pair0)]) ++ ps.drop (j) := by rw [tail_at (n := j) oM, pair_eta]
               have hld : (ps.drop (j)).length = ps.length - (j) := List.length_drop
               have hlt1 : (ps.take j).length = j := by rw [List.length_take]; omega
               have hm26 := Mem.drop Hv _ (Mem.pick Hs25 Hv _ hm25)
               exact ⟨⟨(k + 1), sv25, ((ps.take j ++ [(lp.getD k pair0)]) ++ ps.drop (j)), Hs25, oM, (RdH.ofGrow g25 hnl), (all_put hQ ⟨hEq, .inr (getD_mem hkL), (by simpa using hc16)⟩ j (j)), (by rw [doK_i (by simpa using hc16), ← hkv, ins_ne hj hlt (.inr ⟨hc11, of_decide_eq_false hc22⟩)]; simp only [List.map_append, List.map_cons, List.map_nil, List.append_assoc, List.cons_append, List.nil_append]; rfl), (by simp only [List.length_append, List.length_singleton, hld, hlt1]; omega), rfl, s1, s4, rfl, hm26⟩, meas (rfl) z5 oM oM⟩
           · -- false
             have hc16n : ((lp.getD k pair0).gone) = true := by simpa using hc16
             refine cw_skip (kThen_normal (cw_seq (cw_seq ?_)))
             refine cw_draw [(0, false), (1, false), (2, false), (3, false), (4, false), (5, false), (6, false), (7, false), (8, false), (9, false), (10, false), (11, false), (12, false), (13, false), (14, false)] 15 (by kernel_rfl) <| dM rfl rfl s7 <| dM rfl rfl s0 <| dw_q (v := (i64 (ps.length : Int))) rfl rfl (fun _ _hx => ev_len_rk (hrv _ (fun q hq => (List.mem_append.1 hq).elim (fun hq => ((hm9.ext _hx)).own _ (List.mem_append_left _ hq)) (fun hq => ((hm9.ext _hx)).rest _ _ (hown _ hq))) (fun b o e => ((hm9.ext _hx)).rest b o (h00 _ _ e))) uT55 rfl) <| dw_q rfl rfl (fun _ _hx => ev_i64_lss rfl rfl) <| dw_q rfl rfl (fun _ _hx => ev_move (v := (bl (decide ((j : Int) < (ps.length : Int))))) rfl) ?_
             refine dw_gqy (s := 58) rfl rfl rfl hb8 rfl (fun _ _hx => ev_move s0) <| dw_gqy (s := 58) rfl rfl rfl hb8 rfl (fun _ _hx => ev_move s7) <| dw_gqy (s := 58) rfl rfl rfl hb8 rfl (fun _ _hx => ev_indexAddr_rk (i := (j : Int)) (hrv _ (fun q hq => (List.mem_append.1 hq).elim (fun hq => ((hm9.ext _hx)).own _ (List.mem_append_left _ hq)) (fun hq => ((hm9.ext _hx)).rest _ _ (hown _ hq))) (fun b o e => ((hm9.ext _hx)).rest b o (h00 _ _ e))) uT55 ti79 rfl rfl oM sL) <| dw_gqy (s := 58) rfl rfl rfl hb8 rfl (fun _ _hx => ev_fa_rk (i := (j : Int)) (hrv _ (fun q hq => (List.mem_append.1 hq).elim (fun hq => ((hm9.ext _hx)).own _ (List.mem_append_left _ hq)) (fun hq => ((hm9.ext _hx)).rest _ _ (hown _ hq))) (fun b o e => ((hm9.ext _hx)).rest b o (h00 _ _ e))) sL uT79 rfl (by first | rfl | omega) ti9 rfl rfl) <| dw_gqy (s := 58) rfl rfl rfl hb8 rfl (fun _ _hx => ev_load_rk1 (i := (j : Int)) (dflt := pair0) (u := (Value.string ((ps.getD j pair0).key))) (hrv _ (fun q hq => (List.mem_append.1 hq).elim (fun hq => ((hm9.ext _hx)).own _ (List.mem_append_left _ hq)) (fun hq => ((hm9.ext _hx)).rest _ _ (hown _ hq))) (fun b o e => ((hm9.ext _hx)).rest b o (h00 _ _ e))) sL uT9 rfl rfl (by decide) rfl) <| dw_gqy (s := 58) rfl rfl rfl hb8 rfl (fun _ _hx => ev_move s1) ?_
             refine dw_gqy (s := 58) rfl rfl rfl hb8 rfl (fun _ _hx => ev_move s5) <| dw_gqy (s := 58) rfl rfl rfl hb8 rfl (fun _ _hx => ev_indexAddr_rk (i := (k : Int)) (RdK.ofRest hrp (hm9.ext _hx)) uT55 ti79 rfl rfl oM sL) <| dw_gqy (s := 58) rfl rfl rfl hb8 rfl (fun _ _hx => ev_fa_rk (i := (k : Int)) (RdK.ofRest hrp (hm9.ext _hx)) sL uT79 rfl (by first | rfl | omega) ti9 rfl rfl) <| dw_gqy (s := 58) rfl rfl rfl hb8 rfl (fun _ _hx => ev_load_rk1 (i := (k : Int)) (dflt := pair0) (u := (Value.string ((lp.getD k pair0).key))) (RdK.ofRest hrp (hm9.ext _hx)) sL uT9 rfl rfl (by decide) rfl) ?_
             refine dw_nil (fun w27 _ew27 => ?_)
             have hm27 := hm9.ext _ew27
             refine rw_gyq (s := 58) rfl rfl hb8 rfl (ev_str_eql (s := (ps.getD j pair0).key) (t := (lp.getD k pair0).key) rfl rfl) <| rw_q rfl (ev_pick_tk rfl hb8 rfl) <| rN ?_
             refine CW.abs (fun g => g 0 = vv ∧ g 1 = vp ∧ g 4 = (Value.slice none 0 0) ∧ g 5 = (i64 (k : Int)) ∧ g 6 = vo ∧ g 7 = (i64 (j : Int)) ∧ g 11 = (bl (decide ((k : Int) < (lp.length : Int)))) ∧ g 31 = (bl (klt ((ps.getD j pair0).key) ((lp.getD k pair0).key))) ∧ g 46 = (bl (!((lp.getD k pair0).gone))) ∧ g 70 = (bl (decide ((ps.getD j pair0).key = (lp.getD k pair0).key))) ∧ True) ⟨s0, s1, s4, s5, s6, s7, s11, s31, rfl, rfl, trivial⟩ ?_
             rintro fr28 ⟨s0, s1, s4, s5, s6, s7, s11, s31, s46, s70, _⟩
             refine cw_cond s70 (fun hc29 => ?_) (fun hc29 => ?_)
             · -- true
               have hc29p := of_decide_eq_true hc29
               refine cw_region <| rM rfl s7 <| rw_q rfl (ev_i64_add (b := 1) rfl rfl oM oM) <| rw_q rfl (ev_assign (v := (i64 ((j : Int) + 1))) rfl) ?_
               refine rN (cw_region ?_)
               refine rM rfl s6 <| rM rfl s0 <| rw_q rfl (ev_move (v := (i64 ((j : Int) + 1))) rfl) <| rw_q rfl (ev_slice_rk (i := (j : Int) + 1) (j := (ps.length : Int)) (hrv _ (fun q hq => (List.mem_append.1 hq).elim (fun hq => (hm27).own _ (List.mem_append_left _ hq)) (fun hq => (hm27).rest _ _ (hown _ hq))) (fun b o e => (hm27).rest b o (h00 _ _ e))) uT55 ti79 rfl (optI_some (k := .i64) (i := (j : Int) + 1) rfl) (optI_none _ _) oM sL sL) <| rw_c rfl (or_appendK (enc := encP) (k := 3) (Hs := Ho) (H := Hv ++ ([])) (Mem.pick Hv Ho _ hm27) go rfl rfl (RdK.cast (l' := ((ps.drop ((j : Int) + 1 : Int).toNat).take (((ps.length : Int) : Int).toNat - ((j : Int) + 1 : Int).toNat))) (RdK.sub (i := (j : Int) + 1) (j := (ps.length : Int)) (hrv _ (fun q hq => (List.mem_append.1 hq).elim (fun hq => (hm27).own _ (List.mem_append_left _ hq)) (fun hq => (hm27).rest _ _ (hown _ hq))) (fun b o e => (hm27).rest b o (h00 _ _ e))) oM sL sL) rfl) uT55 uT55 ti79 rfl rfl (fun a _ => encP_one a) sL sL) ?_
               rintro sv30 w30 ⟨Hs30, hm30, g30⟩
               replace g30 : GrowK encP 3 79 sv30 ((ps.take j) ++ ((ps.drop ((j : Int) + 1 : Int).toNat).take (((ps.length : Int) : Int).toNat - ((j : Int) + 1 : Int).toNat))) Hs30 := g30
               refine rA rfl (v := sv30) rfl ?_
               refine rw_nil (kBlk_normal (cw_region ?_))
               refine rM rfl s5 <| rw_q rfl (ev_i64_add (b := 1) rfl rfl oM oM) <| rw_q rfl (ev_assign (v := (i64 ((k : Int) + 1))) rfl) <| rN ?_
               have hnl : (ps.take j) ++ ((ps.drop ((j : Int) + 1 : Int).toNat).take (((ps.length : Int) : Int).toNat - ((j : Int) + 1 : Int).toNat)) = ps.take j ++ ps.drop (j + 1) := by rw [tail_at (n := j + 1) oM]
               have hld : (ps.drop (j + 1)).length = ps.length - (j + 1) := List.length_drop
               have hlt1 : (ps.take j).length = j := by rw [List.length_take]; omega
               have hm31 := Mem.drop Hv _ (Mem.pick Hs30 Hv _ hm30)
               exact ⟨⟨(k + 1), sv30, (ps.take j ++ ps.drop (j + 1)), Hs30, oM, (RdH.ofGrow g30 hnl), (all_cut hQ j (j + 1)), (by rw [doK_d (by simpa using hc16), ← hkv, del_eq hj hlt oM hc11 (of_decide_eq_true hc29)]; simp only [List.map_append]), (by simp only [List.length_append, List.length_singleton, hld, hlt1]; omega), rfl, s1, s4, rfl, hm31⟩, meas (rfl) z5 oM oM⟩
             · -- false
               have hc29p := of_decide_eq_false hc29
               refine cw_skip (kThen_normal (cw_region ?_))
               refine rM rfl s6 <| rM rfl s0 <| rM rfl s7 <| rw_q rfl (ev_slice_rk (i := (j : Int)) (j := (ps.length : Int)) (hrv _ (fun q hq => (List.mem_append.1 hq).elim (fun hq => (hm27).own _ (List.mem_append_left _ hq)) (fun hq => (hm27).rest _ _ (hown _ hq))) (fun b o e => (hm27).rest b o (h00 _ _ e))) uT55 ti79 rfl (optI_some (k := .i64) (i := (j : Int)) rfl) (optI_none _ _) oM sL sL) <| rw_c rfl (or_appendK (enc := encP) (k := 3) (Hs := Ho) (H := Hv ++ ([])) (Mem.pick Hv Ho _ hm27) go rfl rfl (RdK.cast (l' := ((ps.drop ((j : Int) : Int).toNat).take (((ps.length : Int) : Int).toNat - ((j : Int) : Int).toNat))) (RdK.sub (i := (j : Int)) (j := (ps.length : Int)) (hrv _ (fun q hq => (List.mem_append.1 hq).elim (fun hq => (hm27).own _ (List.mem_append_left _ hq)) (fun hq => (hm27).rest _ _ (hown _ hq))) (fun b o e => (hm27).rest b o (h00 _ _ e))) oM sL sL) rfl) uT55 uT55 ti79 rfl rfl (fun a _ => encP_one a) sL sL) ?_
               rintro sv32 w32 ⟨Hs32, hm32, g32⟩
               replace g32 : GrowK encP 3 79 sv32 ((ps.take j) ++ ((ps.drop ((j : Int) : Int).toNat).take (((ps.length : Int) : Int).toNat - ((j : Int) : Int).toNat))) Hs32 := g32
               refine rA rfl (v := sv32) rfl ?_
               refine rw_nil (kBlk_normal (cw_region ?_))
               refine rM rfl s5 <| rw_q rfl (ev_i64_add (b := 1) rfl rfl oM oM) <| rw_q rfl (ev_assign (v := (i64 ((k : Int) + 1))) rfl) <| rN ?_
               have hnl : (ps.take j) ++ ((ps.drop ((j : Int) : Int).toNat).take (((ps.length : Int) : Int).toNat - ((j : Int) : Int).toNat)) = ps.take j ++ ps.drop (j) := by rw [tail_at (n := j) oM]
               have hld : (ps.drop (j)).length = ps.length - (j) := List.length_drop
               have hlt1 : (ps.take j).length = j := by rw [List.length_take]; omega
               have hm33 := Mem.drop Hv _ (Mem.pick Hs32 Hv _ hm32)
               exact ⟨⟨(k + 1), sv32, (ps.take j ++ ps.drop (j)), Hs32, oM, (RdH.ofGrow g32 hnl), (all_cut hQ j (j)), (by rw [doK_d (by simpa using hc16), ← hkv, del_ne hj hlt (.inr ⟨hc11, of_decide_eq_false hc29⟩)]; simp only [List.map_append]), (by simp only [List.length_append, List.length_singleton, hld, hlt1]; omega), rfl, s1, s4, rfl, hm33⟩, meas (rfl) z5 oM oM⟩
       · -- false
         have hb8p := of_decide_eq_false hb8
         refine dw_gqn (s := 19) rfl rfl rfl hb8 rfl <| dw_gqn (s := 19) rfl rfl rfl hb8 rfl <| dw_gqn (s := 19) rfl rfl rfl hb8 rfl <| dw_gqn (s := 19) rfl rfl rfl hb8 rfl <| dw_gqn (s := 19) rfl rfl rfl hb8 rfl <| dw_gqn (s := 19) rfl rfl rfl hb8 rfl ?_
         refine dw_gqn (s := 19) rfl rfl rfl hb8 rfl <| dw_gqn (s := 19) rfl rfl rfl hb8 rfl <| dw_gqn (s := 19) rfl rfl rfl hb8 rfl <| dw_gqn (s := 19) rfl rfl rfl hb8 rfl ?_
         refine dw_nil (fun w34 _ew34 => ?_)
         have hm34 := hm7.ext _ew34
         refine rw_gn (s := 19) rfl rfl hb8 rfl <| rw_q rfl (ev_pick_fk rfl hb8 rfl) <| rN ?_
         refine CW.abs (fun g => g 0 = vv ∧ g 1 = vp ∧ g 4 = (Value.slice none 0 0) ∧ g 5 = (i64 (k : Int)) ∧ g 6 = vo ∧ g 7 = (i64 (j : Int)) ∧ g 11 = (bl (decide ((k : Int) < (lp.length : Int)))) ∧ g 31 = (bl false) ∧ True) ⟨s0, s1, s4, s5, s6, s7, s11, rfl, trivial⟩ ?_
         rintro fr35 ⟨s0, s1, s4, s5, s6, s7, s11, s31, _⟩
         refine cw_cond_f s31 (by decide) <| cw_exit ?_
         refine kThen_exit (kThen_exit (kBlk_hit ?_))
         refine cw_seq (sR ?_)
         refine rM rfl s1 <| rM rfl s5 <| rw_q rfl (ev_indexAddr_rk (i := (k : Int)) (RdK.ofRest hrp hm34) uT55 ti79 rfl rfl oM sL) <| rw_q rfl (ev_fa_rk (i := (k : Int)) (RdK.ofRest hrp hm34) sL uT79 rfl (by first | rfl | omega) ti4 rfl rfl) <| rw_q (v := (bl ((lp.getD k pair0).gone))) rfl (ev_load_rk1 (i := (k : Int)) (dflt := pair0) (u := (bl ((lp.getD k pair0).gone))) (RdK.ofRest hrp hm34) sL uT4 rfl rfl (by decide) rfl) <| rw_q rfl (ev_not rfl) ?_
         refine rN ?_
         refine cw_cond rfl (fun hc36 => ?_) (fun hc36 => ?_)
         · -- true
           have hc36n : ((lp.getD k pair0).gone) = false := by simpa using hc36
           refine cw_region <| rM rfl s6 <| rM rfl s1 <| rM rfl s5 <| rw_q rfl (ev_indexAddr_rk (i := (k : Int)) (RdK.ofRest hrp hm34) uT55 ti79 rfl rfl oM sL) <| rw_q (v := (Value.agg #[(Value.string ((lp.getD k pair0).key)), (slv (lp.getD k pair0).val), (bl ((lp.getD k pair0).gone))])) rfl (ev_load_rkA (i := (k : Int)) (dflt := pair0) (cs := #[(Value.string ((lp.getD k pair0).key)), (slv (lp.getD k pair0).val), (bl ((lp.getD k pair0).gone))]) (RdK.ofRest hrp hm34) sL uT79 rfl ti79 rfl rfl (by decide) rfl) ?_
           refine rw_c rfl (or_buildSlice_k1 (cs := #[(Value.string ((lp.getD k pair0).key)), (slv (lp.getD k pair0).val), (bl ((lp.getD k pair0).gone))]) hm34 uT55 ti79 rfl rfl rfl rfl) ?_
           rintro _ w37 ⟨b52_1, rfl, _ew37, hm37⟩
           have hm37 : Mem w37 (restOf w0) ([(b52_1, .cells #[(Value.string ((lp.getD k pair0).key)), (slv (lp.getD k pair0).val), (bl ((lp.getD k pair0).gone))] 79 (0, 0))] ++ (Hv ++ (Ho ++ ([])))) := hm37
           refine rw_c rfl (or_appendK (enc := encP) (k := 3) (Hs := Ho) (H := [(b52_1, .cells #[(Value.string ((lp.getD k pair0).key)), (slv (lp.getD k pair0).val), (bl ((lp.getD k pair0).gone))] 79 (0, 0))] ++ (Hv ++ ([]))) (Mem.pick2 [_] Hv Ho _ hm37) go rfl rfl (RdK.ofOne (enc := encP) (k := 3) (a := (PairT.mk ((lp.getD k pair0).key) (toSl (slv (lp.getD k pair0).val) ((lp.getD k pair0).val.2)) ((lp.getD k pair0).gone))) hm37.h0 (by show _ = #[_, slv (toSl (slv (lp.getD k pair0).val) ((lp.getD k pair0).val.2)), _]; rw [Rd.toSl ((lp.getD k pair0).val.2) (Rd.ofRest (rdQ PairT.val hqp (k := k) sD) hm37)]) rfl) uT55 uT55 ti79 rfl rfl (fun a _ => encP_one a) sL sL) ?_
           rintro sv38 w38 ⟨Hs38, hm38, g38⟩
           replace g38 : GrowK encP 3 79 sv38 ((ps.take j) ++ ([(PairT.mk ((lp.getD k pair0).key) (toSl (slv (lp.getD k pair0).val) ((lp.getD k pair0).val.2)) ((lp.getD k pair0).gone))])) Hs38 := g38
           refine rA rfl (v := sv38) rfl ?_
           refine rN (cw_seq (cw_seq ?_))
           refine cw_draw [(0, false), (1, false), (2, false), (3, false), (4, false), (5, false), (6, false), (7, false), (8, false), (9, false), (10, false), (11, false), (12, false), (13, false), (14, false)] 15 (by kernel_rfl) <| dM rfl rfl s7 <| dM rfl rfl s0 <| dw_q (v := (i64 (ps.length : Int))) rfl rfl (fun _ _hx => ev_len_rk (hrv _ (fun q hq => (List.mem_append.1 hq).elim (fun hq => ((hm38.ext _hx)).own _ (List.mem_append_right _ (List.mem_append_right _ (List.mem_append_left _ hq)))) (fun hq => ((hm38.ext _hx)).rest _ _ (hown _ hq))) (fun b o e => ((hm38.ext _hx)).rest b o (h00 _ _ e))) uT55 rfl) <| dw_q rfl rfl (fun _ _hx => ev_i64_lss rfl rfl) <| dw_q rfl rfl (fun _ _hx => ev_move (v := (bl (decide ((j : Int) < (ps.length : Int))))) rfl) ?_
           refine dw_gqn (s := 58) rfl rfl rfl hb8 rfl <| dw_gqn (s := 58) rfl rfl rfl hb8 rfl <| dw_gqn (s := 58) rfl rfl rfl hb8 rfl <| dw_gqn (s := 58) rfl rfl rfl hb8 rfl <| dw_gqn (s := 58) rfl rfl rfl hb8 rfl <| dw_gqn (s := 58) rfl rfl rfl hb8 rfl ?_
           refine dw_gqn (s := 58) rfl rfl rfl hb8 rfl <| dw_gqn (s := 58) rfl rfl rfl hb8 rfl <| dw_gqn (s := 58) rfl rfl rfl hb8 rfl <| dw_gqn (s := 58) rfl rfl rfl hb8 rfl ?_
           refine dw_nil (fun w39 _ew39 => ?_)
           have hm39 := hm38.ext _ew39
           refine rw_gn (s := 58) rfl rfl hb8 rfl <| rw_q rfl (ev_pick_fk rfl hb8 rfl) <| rN ?_
           have hm40 := Mem.drop ([(b52_1, .cells #[(Value.string ((lp.getD k pair0).key)), (slv (lp.getD k pair0).val), (bl ((lp.getD k pair0).gone))] 79 (0, 0))]) _ (Mem.pick Hs38 [_] _ hm39)
           refine CW.abs (fun g => g 0 = vv ∧ g 1 = vp ∧ g 4 = (Value.slice none 0 0) ∧ g 5 = (i64 (k : Int)) ∧ g 6 = sv38 ∧ g 7 = (i64 (j : Int)) ∧ g 11 = (bl (decide ((k : Int) < (lp.length : Int)))) ∧ g 31 = (bl false) ∧ g 46 = (bl (!((lp.getD k pair0).gone))) ∧ g 70 = (bl false) ∧ True) ⟨s0, s1, s4, s5, rfl, s7, s11, s31, rfl, rfl, trivial⟩ ?_
           rintro fr41 ⟨s0, s1, s4, s5, s6, s7, s11, s31, s46, s70, _⟩
           refine cw_cond_f s70 (by decide) ?_
           refine cw_skip (kThen_normal (cw_region ?_))
           refine rM rfl s6 <| rM rfl s0 <| rM rfl s7 <| rw_q rfl (ev_slice_rk (i := (j : Int)) (j := (ps.length : Int)) (hrv _ (fun q hq => (List.mem_append.1 hq).elim (fun hq => (hm40).own _ (List.mem_append_right _ (List.mem_append_left _ hq))) (fun hq => (hm40).rest _ _ (hown _ hq))) (fun b o e => (hm40).rest b o (h00 _ _ e))) uT55 ti79 rfl (optI_some (k := .i64) (i := (j : Int)) rfl) (optI_none _ _) oM sL sL) <| rw_c rfl (or_appendK (enc := encP) (k := 3) (Hs := Hs38) (H := Hv ++ ([])) hm40 g38 rfl rfl (RdK.cast (l' := ((ps.drop ((j : Int) : Int).toNat).take (((ps.length : Int) : Int).toNat - ((j : Int) : Int).toNat))) (RdK.sub (i := (j : Int)) (j := (ps.length : Int)) (hrv _ (fun q hq => (List.mem_append.1 hq).elim (fun hq => (hm40).own _ (List.mem_append_right _ (List.mem_append_left _ hq))) (fun hq => (hm40).rest _ _ (hown _ hq))) (fun b o e => (hm40).rest b o (h00 _ _ e))) oM sL sL) rfl) uT55 uT55 ti79 rfl rfl (fun a _ => encP_one a) sL sL) ?_
           rintro sv42 w42 ⟨Hs42, hm42, g42⟩
           replace g42 : GrowK encP 3 79 sv42 (((ps.take j) ++ ([(PairT.mk ((lp.getD k pair0).key) (toSl (slv (lp.getD k pair0).val) ((lp.getD k pair0).val.2)) ((lp.getD k pair0).gone))])) ++ ((ps.drop ((j : Int) : Int).toNat).take (((ps.length : Int) : Int).toNat - ((j : Int) : Int).toNat))) Hs42 := g42
           refine rA rfl (v := sv42) rfl ?_
           refine rw_nil (kBlk_normal (cw_region ?_))
           refine rM rfl s5 <| rw_q rfl (ev_i64_add (b := 1) rfl rfl oM oM) <| rw_q rfl (ev_assign (v := (i64 ((k : Int) + 1))) rfl) <| rN ?_
           have hnl : ((ps.take j) ++ ([(PairT.mk ((lp.getD k pair0).key) (toSl (slv (lp.getD k pair0).val) ((lp.getD k pair0).val.2)) ((lp.getD k pair0).gone))])) ++ ((ps.drop ((j : Int) : Int).toNat).take (((ps.length : Int) : Int).toNat - ((j : Int) : Int).toNat)) = (ps.take j ++ [(lp.getD k pair0)]) ++ ps.drop (j) := by rw [tail_at (n := j) oM, pair_eta]
           have hld : (ps.drop (j)).length = ps.length - (j) := List.length_drop
           have hlt1 : (ps.take j).length = j := by rw [List.length_take]; omega
           have hm43 := Mem.drop Hv _ (Mem.pick Hs42 Hv _ hm42)
           exact ⟨⟨(k + 1), sv42, ((ps.take j ++ [(lp.getD k pair0)]) ++ ps.drop (j)), Hs42, oM, (RdH.ofGrow g42 hnl), (all_put hQ ⟨hEq, .inr (getD_mem hkL), (by simpa using hc36)⟩ j (j)), (by rw [doK_i (by simpa using hc36), ← hkv, ins_ne hj hlt (.inl oM)]; simp only [List.map_append, List.map_cons, List.map_nil, List.append_assoc, List.cons_append, List.nil_append]; rfl), (by simp only [List.length_append, List.length_singleton, hld, hlt1]; omega), rfl, s1, s4, rfl, hm43⟩, meas (rfl) z5 oM oM⟩
         · -- false
           have hc36n : ((lp.getD k pair0).gone) = true := by simpa using hc36
           refine cw_skip (kThen_normal (cw_seq (cw_seq ?_)))
           refine cw_draw [(0, false), (1, false), (2, false), (3, false), (4, false), (5, false), (6, false), (7, false), (8, false), (9, false), (10, false), (11, false), (12, false), (13, false), (14, false)] 15 (by kernel_rfl) <| dM rfl rfl s7 <| dM rfl rfl s0 <| dw_q (v := (i64 (ps.length : Int))) rfl rfl (fun _ _hx => ev_len_rk (hrv _ (fun q hq => (List.mem_append.1 hq).elim (fun hq => ((hm34.ext _hx)).own _ (List.mem_append_left _ hq)) (fun hq => ((hm34.ext _hx)).rest _ _ (hown _ hq))) (fun b o e => ((hm34.ext _hx)).rest b o (h00 _ _ e))) uT55 rfl) <| dw_q rfl rfl (fun _ _hx => ev_i64_lss rfl rfl) <| dw_q rfl rfl (fun _ _hx => ev_move (v := (bl (decide ((j : Int) < (ps.length : Int))))) rfl) ?_
           refine dw_gqn (s := 58) rfl rfl rfl hb8 rfl <| dw_gqn (s := 58) rfl rfl rfl hb8 rfl <| dw_gqn (s := 58) rfl rfl rfl hb8 rfl <| dw_gqn (s := 58) rfl rfl rfl hb8 rfl <| dw_gqn (s := 58) rfl rfl rfl hb8 rfl <| dw_gqn (s := 58) rfl rfl rfl hb8 rfl ?_
           refine dw_gqn (s := 58) rfl rfl rfl hb8 rfl <| dw_gqn (s := 58) rfl rfl rfl hb8 rfl <| dw_gqn (s := 58) rfl rfl rfl hb8 rfl <| dw_gqn (s := 58) rfl rfl rfl hb8 rfl ?_
           refine dw_nil (fun w44 _ew44 => ?_)
           have hm44 := hm34.ext _ew44
           refine rw_gn (s := 58) rfl rfl hb8 rfl <| rw_q rfl (ev_pick_fk rfl hb8 rfl) <| rN ?_
           refine CW.abs (fun g => g 0 = vv ∧ g 1 = vp ∧ g 4 = (Value.slice none 0 0) ∧ g 5 = (i64 (k : Int)) ∧ g 6 = vo ∧ g 7 = (i64 (j : Int)) ∧ g 11 = (bl (decide ((k : Int) < (lp.length : Int)))) ∧ g 31 = (bl false) ∧ g 46 = (bl (!((lp.getD k pair0).gone))) ∧ g 70 = (bl false) ∧ True) ⟨s0, s1, s4, s5, s6, s7, s11, s31, rfl, rfl, trivial⟩ ?_
           rintro fr45 ⟨s0, s1, s4, s5, s6, s7, s11, s31, s46, s70, _⟩
           refine cw_cond_f s70 (by decide) ?_
           refine cw_skip (kThen_normal (cw_region ?_))
           refine rM rfl s6 <| rM rfl s0 <| rM rfl s7 <| rw_q rfl (ev_slice_rk (i := (j : Int)) (j := (ps.length : Int)) (hrv _ (fun q hq => (List.mem_append.1 hq).elim (fun hq => (hm44).own _ (List.mem_append_left _ hq)) (fun hq => (hm44).rest _ _ (hown _ hq))) (fun b o e => (hm44).rest b o (h00 _ _ e))) uT55 ti79 rfl (optI_some (k := .i64) (i := (j : Int)) rfl) (optI_none _ _) oM sL sL) <| rw_c rfl (or_appendK (enc := encP) (k := 3) (Hs := Ho) (H := Hv ++ ([])) (Mem.pick Hv Ho _ hm44) go rfl rfl (RdK.cast (l' := ((ps.drop ((j : Int) : Int).toNat).take (((ps.length : Int) : Int).toNat - ((j : Int) : Int).toNat))) (RdK.sub (i := (j : Int)) (j := (ps.length : Int)) (hrv _ (fun q hq => (List.mem_append.1 hq).elim (fun hq => (hm44).own _ (List.mem_append_left _ hq)) (fun hq => (hm44).rest _ _ (hown _ hq))) (fun b o e => (hm44).rest b o (h00 _ _ e))) oM sL sL) rfl) uT55 uT55 ti79 rfl rfl (fun a _ => encP_one a) sL sL) ?_
           rintro sv46 w46 ⟨Hs46, hm46, g46⟩
           replace g46 : GrowK encP 3 79 sv46 ((ps.take j) ++ ((ps.drop ((j : Int) : Int).toNat).take (((ps.length : Int) : Int).toNat - ((j : Int) : Int).toNat))) Hs46 := g46
           refine rA rfl (v := sv46) rfl ?_
           refine rw_nil (kBlk_normal (cw_region ?_))
           refine rM rfl s5 <| rw_q rfl (ev_i64_add (b := 1) rfl rfl oM oM) <| rw_q rfl (ev_assign (v := (i64 ((k : Int) + 1))) rfl) <| rN ?_
           have hnl : (ps.take j) ++ ((ps.drop ((j : Int) : Int).toNat).take (((ps.length : Int) : Int).toNat - ((j : Int) : Int).toNat)) = ps.take j ++ ps.drop (j) := by rw [tail_at (n := j) oM]
           have hld : (ps.drop (j)).length = ps.length - (j) := List.length_drop
           have hlt1 : (ps.take j).length = j := by rw [List.length_take]; omega
           have hm47 := Mem.drop Hv _ (Mem.pick Hs46 Hv _ hm46)
           exact ⟨⟨(k + 1), sv46, (ps.take j ++ ps.drop (j)), Hs46, oM, (RdH.ofGrow g46 hnl), (all_cut hQ j (j)), (by rw [doK_d (by simpa using hc36), ← hkv, del_ne hj hlt (.inl oM)]; simp only [List.map_append]), (by simp only [List.length_append, List.length_singleton, hld, hlt1]; omega), rfl, s1, s4, rfl, hm47⟩, meas (rfl) z5 oM oM⟩
   · -- false
     have hc3p := of_decide_eq_false hc3
     refine cw_exit ?_
     refine kThen_exit (kThen_exit (kBlk_hit ?_))
     refine sR <| rM rfl s0 <| rA rfl (v := vv) rfl ?_
     refine rN (cw_ret ?_)
     refine fnPost_ret [vv] ⟨rfl, trivial⟩ ?_
     have hkl : k = lp.length := by omega
     subst hkl
     exact ⟨ps, Hv, hkv, (fun a h => (hQ a h).2), hpl, hrv, by simpa using hm2⟩

set_option maxHeartbeats 2000000 in
theorem c_sis (bs bj b : Nat) (S : List KV) (vv : Value) (vs : List PairT) (w0 : World)  (hs : blks w0 bs = some (.cells #[ptr bj 0, .map (some b)] 118 (0, 0))) (hmap : MapR (blks w0) b S) (hsm : SmallK S) (hsn : S.length ≤ 1048576) (hrv : RdK (blks w0) encP 3 vv vs) (hqv : ∀ a ∈ vs, Rd (blks w0) u8 (slv a.val) a.val.2) (hM : vs.map kvOf = S) : CallsR Try.prog 42 #[(ptr bs 0), vv] w0 (fun r w1 => r = (bl true) ∧ Ext w0 w1) := by
 refine callsR_of_cw (args := [(ptr bs 0), vv]) Try.func42 rfl Try.ntmps42 Try.results42 rfl ?_
 have hm0 : Mem w0 (restOf w0) [] := Mem.of_world w0
 have hlm := congrArg List.length hM; rw [List.length_map] at hlm
 have hka := keysB_all S
 have hkal : (keysB S ⟨#[]⟩).length = S.length := by rw [hka, List.length_map]
 refine sR <| rw_q rfl (ev_assign (v := (bl false)) rfl) ?_
 refine rN (cw_seq (sR ?_))
 refine rw_q rfl (ev_move (v := (ptr bs 0)) rfl) <| rw_q rfl (ev_ptr_nil_eql uT70 rfl rfl) <| rN <| cw_cond_f rfl (by decide) ?_
 refine cw_skip (kThen_normal (sR ?_))
 refine rw_q rfl (ev_move (v := (ptr bs 0)) rfl) <| rw_c rfl (opR_call Try.func43 bd43 nm43 (args2 rfl rfl) (c_skeys bs bj b S (⟨#[]⟩) _ (hm0.rest _ _ hs) (MapR.ofRest (R := (restOf w0)) hmap hm0) hsm sL)) ?_
 rintro rq2 w1 ⟨Hsq2, grq2, k_w1⟩
 have hm1 : Mem w1 (restOf w0) (Hsq2 ++ ([])) := Mem.new (H := []) (H' := Hsq2) hm0 k_w1
 refine rA rfl (v := rq2) rfl ?_
 refine rN (cw_seq (sR ?_))
 refine rM rfl (v := rq2) rfl <| rw_q (v := (i64 ((keysB S (⟨#[]⟩)).length : Int))) rfl (ev_len_rd (grq2.rd hm1) uT76 rfl) <| rM rfl (v := vv) rfl <| rw_q (v := (i64 (vs.length : Int))) rfl (ev_len_rk (RdK.ofRest hrv hm1) uT55 rfl) <| rw_q rfl (ev_i64_neq rfl rfl) <| rN ?_
 have hd3 : (((keysB S (⟨#[]⟩)).length : Int) != (vs.length : Int)) = false := (by rw [hkal, hlm]; simp)
 refine cw_cond_f rfl hd3 ?_
 refine cw_skip (kThen_normal (cw_seq (sR ?_)))
 refine rM rfl (v := rq2) rfl <| rw_q (v := (i64 ((keysB S (⟨#[]⟩)).length : Int))) rfl (ev_len_rd (grq2.rd hm1) uT76 rfl) <| rw_q rfl (ev_move (v := (i64 0)) rfl) ?_
 refine rN (cw_block ?_)
 refine cw_loop (fun g wv => ∃ (k : Nat), (k ≤ (keysB S ⟨#[]⟩).length) ∧ g 0 = (ptr bs 0) ∧ g 1 = vv ∧ g 5 = rq2 ∧ g 11 = (bl false) ∧ g 18 = (bl (((keysB S (⟨#[]⟩)).length : Int) != (vs.length : Int))) ∧ g 19 = rq2 ∧ g 20 = (i64 ((keysB S (⟨#[]⟩)).length : Int)) ∧ g 21 = (i64 (k : Int)) ∧ Mem wv (restOf w0) (Hsq2 ++ ([]))) (fun g wv => (((keysB S ⟨#[]⟩).length : Int) - RowKit.intOf (g 21)).toNat) ?_ ?_
 · exact ⟨0, (Nat.zero_le _), rfl, rfl, rfl, rfl, rfl, rfl, rfl, rfl, (by
   have hT := hm1
   try simp only [List.append_assoc, List.cons_append, List.nil_append, List.append_nil] at hT ⊢
   exact hT)⟩
 · rintro fr4 w5 ⟨k, hk, s0, s1, s5, s11, s18, s19, s20, s21, hm5⟩
   have z21 := s21
   refine sR <| rw_q rfl (ev_i64_lss s21 s20) ?_
   refine rN (cw_seq ?_)
   refine cw_cond rfl (fun hc6 => ?_) (fun hc6 => ?_)
   · -- true
     have hc6p := of_decide_eq_true hc6
     have hkS : k < S.length := by omega
     have hla := lk_at hmap.sort hkS
     have hgk : S.getD k (ByteArray.empty, []) = kvOf (vs.getD k pair0) := by rw [← hM, List.getD_eq_getElem?_getD, List.getElem?_map, List.getElem?_eq_getElem (show k < vs.length by omega)]; simp [List.getD_eq_getElem?_getD, show k < vs.length by omega]
     have hkk : (keysB S ⟨#[]⟩).getD k ByteArray.empty = (kvOf (vs.getD k pair0)).1 := by rw [hka, ← hgk]; exact (congrArg Prod.fst hla)
     rw [hgk, ← hka, hkk] at hla
     have hlv : (lkA S (kvOf (vs.getD k pair0)).1).getD [] = (vs.getD k pair0).val.2 := congrArg Prod.snd hla
     have hls : (lkA S (kvOf (vs.getD k pair0)).1).isSome = true := by rw [Option.isSome_iff_ne_none]; intro hx; rw [lkA_none] at hx; exact hx (by rw [← hka, ← hkk, List.getD_eq_getElem?_getD, List.getElem?_eq_getElem (show k < (keysB S ⟨#[]⟩).length by omega)]; exact List.getElem_mem _)
     have hvb : ((lkA S (kvOf (vs.getD k pair0)).1).getD []).length ≤ 1048576 := hsm.val _
     refine cw_skip (kThen_normal (cw_seq (cw_block (sR ?_))))
     refine rM rfl s21 <| rw_q rfl (ev_indexAddr_rdv (grq2.rd hm5) uT76 ti9 s19 s21 oM sL) <| rw_q (v := (Value.string ((keysB S (⟨#[]⟩)).getD k ByteArray.empty))) rfl (ev_load_rdD (l := (keysB S (⟨#[]⟩))) (i := (k : Int)) (dflt := ByteArray.empty) (grq2.rd hm5) uT9 rfl oM sL rfl) <| rw_q rfl (ev_assign (v := (i64 (k : Int))) rfl) <| rw_q rfl (ev_assign (v := (Value.string ((keysB S (⟨#[]⟩)).getD k ByteArray.empty))) rfl) ?_
     refine rN (cw_seq ?_)
     refine CW.abs (fun g => g 0 = (ptr bs 0) ∧ g 1 = vv ∧ g 5 = rq2 ∧ g 6 = (i64 (k : Int)) ∧ g 7 = (Value.string ((kvOf (vs.getD k pair0)).1)) ∧ g 11 = (bl false) ∧ g 18 = (bl (((keysB S (⟨#[]⟩)).length : Int) != (vs.length : Int))) ∧ g 19 = rq2 ∧ g 20 = (i64 ((keysB S (⟨#[]⟩)).length : Int)) ∧ g 21 = (i64 (k : Int)) ∧ g 22 = (bl (decide ((k : Int) < ((keysB S (⟨#[]⟩)).length : Int)))) ∧ True) ⟨s0, s1, s5, rfl, (Eq.trans rfl (congrArg Value.string hkk)), s11, s18, s19, s20, s21, rfl, trivial⟩ ?_
     rintro fr7 ⟨s0, s1, s5, s6, s7, s11, s18, s19, s20, s21, s22, _⟩
     refine cw_region <| rM rfl s0 <| rM rfl s7 <| rw_c rfl (opR_call Try.func47 bd47 nm47 (args2 rfl rfl) (c_sget bs bj b S ((kvOf (vs.getD k pair0)).1) _ (hm5.rest _ _ hs) (MapR.ofRest (R := (restOf w0)) hmap hm5) hsm sL)) ?_
     rintro _ w8 ⟨vq9, Hsq9, rfl, grq9, k_w8⟩
     have hm8 : Mem w8 (restOf w0) (Hsq9 ++ (Hsq2 ++ ([]))) := Mem.new (H := Hsq2 ++ ([])) (H' := Hsq9) hm5 k_w8
     refine rw_q rfl (ev_move (v := (Value.tuple #[vq9, (bl ((lkA S ((kvOf (vs.getD k pair0)).1)).isSome))])) rfl) <| rw_q (v := vq9) rfl (ev_extract rfl rfl) <| rw_q (v := (bl ((lkA S ((kvOf (vs.getD k pair0)).1)).isSome))) rfl (ev_extract rfl rfl) <| rA rfl (v := vq9) rfl <| rw_q rfl (ev_assign (v := (bl ((lkA S ((kvOf (vs.getD k pair0)).1)).isSome))) rfl) ?_
     refine rN (sR ?_)
     refine rw_q rfl (ev_move (v := (bl ((lkA S ((kvOf (vs.getD k pair0)).1)).isSome))) rfl) <| rw_q rfl (ev_not rfl) <| rw_q rfl (ev_move (v := (bl (!((lkA S ((kvOf (vs.getD k pair0)).1)).isSome)))) rfl) ?_
     have hd10 : ((lkA S ((kvOf (vs.getD k pair0)).1)).isSome) = true := hls
     have hd11 : (!((lkA S ((kvOf (vs.getD k pair0)).1)).isSome)) = false := congrArg Bool.not hd10
     refine rw_gyq (s := 34) rfl rfl hd11 rfl (ev_move s7) <| rw_gyq (s := 34) rfl rfl hd11 rfl (ev_move s1) <| rw_gyq (s := 34) rfl rfl hd11 rfl (ev_move s6) <| rw_gyq (s := 34) rfl rfl hd11 rfl (ev_indexAddr_rk (i := (k : Int)) (RdK.ofRest hrv hm8) uT55 ti79 rfl rfl oM sL) <| rw_gyq (s := 34) rfl rfl hd11 rfl (ev_fa_rk (i := (k : Int)) (RdK.ofRest hrv hm8) sL uT79 rfl (by first | rfl | omega) ti9 rfl rfl) <| rw_gyq (s := 34) rfl rfl hd11 rfl (ev_load_rk1 (i := (k : Int)) (dflt := pair0) (u := (Value.string ((vs.getD k pair0).key))) (RdK.ofRest hrv hm8) sL uT9 rfl rfl (by decide) rfl) ?_
     refine rw_gyq (s := 34) rfl rfl hd11 rfl (ev_str_neq (s := (kvOf (vs.getD k pair0)).1) (t := (vs.getD k pair0).key) rfl rfl) <| rw_q rfl (ev_pick_fk rfl hd11 rfl) <| rw_q rfl (ev_move (v := (bl (!decide ((kvOf (vs.getD k pair0)).1 = (vs.getD k pair0).key)))) rfl) ?_
     have hd12 : (!decide ((kvOf (vs.getD k pair0)).1 = (vs.getD k pair0).key)) = false := (by rw [decide_eq_true (show (kvOf (vs.getD k pair0)).1 = (vs.getD k pair0).key from rfl)]; rfl)
     refine rw_gyq (s := 43) rfl rfl hd12 rfl (ev_move (v := vq9) rfl) <| rw_gyq (s := 43) rfl rfl hd12 rfl (ev_move s1) <| rw_gyq (s := 43) rfl rfl hd12 rfl (ev_move s6) <| rw_gyq (s := 43) rfl rfl hd12 rfl (ev_indexAddr_rk (i := (k : Int)) (RdK.ofRest hrv hm8) uT55 ti79 rfl rfl oM sL) <| rw_gyq (s := 43) rfl rfl hd12 rfl (ev_fa_rk (i := (k : Int)) (RdK.ofRest hrv hm8) sL uT79 rfl (by first | rfl | omega) ti23 rfl rfl) <| rw_gyq (s := 43) rfl rfl hd12 rfl (ev_load_rk1 (i := (k : Int)) (dflt := pair0) (u := (slv (vs.getD k pair0).val)) (RdK.ofRest hrv hm8) sL uT23 rfl rfl (by decide) rfl) ?_
     refine rw_gy (s := 43) rfl rfl hd12 rfl (opR_call Try.func36 bd36 nm36 (args2 rfl rfl) (c_same vq9 (slv (vs.getD k pair0).val) ((lkA S ((kvOf (vs.getD k pair0)).1)).getD []) ((vs.getD k pair0).val.2) _ (grq9.rd hm8) (Rd.ofRest (rdQ PairT.val hqv (k := k) sD) hm8) sL)) ?_
     rintro _ w13 ⟨rfl, _ew13⟩
     have hm13 := hm8.ext _ew13
     refine rw_gyq (s := 43) rfl rfl hd12 rfl (ev_not rfl) <| rw_q rfl (ev_pick_fk rfl hd12 rfl) <| rN ?_
     refine CW.abs (fun g => g 0 = (ptr bs 0) ∧ g 1 = vv ∧ g 5 = rq2 ∧ g 6 = (i64 (k : Int)) ∧ g 7 = (Value.string ((kvOf (vs.getD k pair0)).1)) ∧ g 8 = vq9 ∧ g 9 = (bl ((lkA S ((kvOf (vs.getD k pair0)).1)).isSome)) ∧ g 11 = (bl false) ∧ g 18 = (bl (((keysB S (⟨#[]⟩)).length : Int) != (vs.length : Int))) ∧ g 19 = rq2 ∧ g 20 = (i64 ((keysB S (⟨#[]⟩)).length : Int)) ∧ g 21 = (i64 (k : Int)) ∧ g 22 = (bl (decide ((k : Int) < ((keysB S (⟨#[]⟩)).length : Int)))) ∧ g 52 = (bl (!(((lkA S ((kvOf (vs.getD k pair0)).1)).getD []) == ((vs.getD k pair0).val.2)))) ∧ True) ⟨s0, s1, s5, s6, s7, rfl, rfl, s11, s18, s19, s20, s21, s22, rfl, trivial⟩ ?_
     rintro fr15 ⟨s0, s1, s5, s6, s7, s8, s9, s11, s18, s19, s20, s21, s22, s52, _⟩
     have hd16 : (((lkA S ((kvOf (vs.getD k pair0)).1)).getD []) == ((vs.getD k pair0).val.2)) = true := (by rw [hlv]; exact beq_self_eq_true _)
     have hd17 : (!(((lkA S ((kvOf (vs.getD k pair0)).1)).getD []) == ((vs.getD k pair0).val.2))) = false := congrArg Bool.not hd16
     refine cw_cond_f s52 hd17 ?_
     refine cw_skip (kBlk_normal (cw_region ?_))
     refine rw_q rfl (ev_i64_add (b := 1) s21 rfl oM oM) <| rw_q rfl (ev_move (v := (i64 ((k : Int) + 1))) rfl) <| rN ?_
     have hm18 := Mem.drop Hsq9 _ hm13
     exact ⟨⟨(k + 1), oM, s0, s1, s5, s11, s18, s19, s20, rfl, (by
       have hT := hm18
       try simp only [List.append_assoc, List.cons_append, List.nil_append, List.append_nil] at hT ⊢
       exact hT)⟩, meas (rfl) z21 oM oM⟩
   · -- false
     have hc6p := of_decide_eq_false hc6
     refine cw_exit ?_
     refine kThen_exit (kThen_exit (kBlk_hit ?_))
     refine sR <| rw_q rfl (ev_assign (v := (bl true)) rfl) ?_
     refine rN (cw_ret ?_)
     refine fnPost_ret [(bl true)] ⟨rfl, trivial⟩ ?_
     exact ⟨rfl, hm5.toExt⟩


end Go.Proofs.Ytfbnhoolkajebaa
