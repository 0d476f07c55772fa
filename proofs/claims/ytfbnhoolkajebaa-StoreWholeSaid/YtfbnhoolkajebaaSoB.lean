/- Contracts: a key's value, keys, all pairs. Conditions: none beyond those that each theorem states. -/
import Derived.Test.YtfbnhoolkajebaaSoA
namespace Go.Proofs.Ytfbnhoolkajebaa
set_option linter.unusedVariables false
set_option linter.unusedSimpArgs false
def kvOf (p : PairT) : KV := (p.key, p.val.2)
/-- No key and no value is too large. -/
def SmallK (S : List KV) : Prop := ∀ p ∈ S, p.1.size ≤ 1048576 ∧ p.2.length ≤ 1048576
theorem SmallK.keys {S : List KV} (h : SmallK S) : ∀ p ∈ S, p.1.size ≤ 1048576 := fun p hp => (h p hp).1
theorem SmallK.val {S : List KV} (h : SmallK S) (k : ByteArray) : ((lkA S k).getD []).length ≤ 1048576 := by
  cases hx : lkA S k with
  | none => show (0 : Nat) ≤ _; omega
  | some v => exact (h _ (lkA_mem hx)).2
/-- The keys that begin with a text. -/
def keysB (S : List KV) (p : ByteArray) : List ByteArray := (S.map (·.1)).filter (preB p)
theorem keysB_of {S : List KV} {p : ByteArray} {dn : List ByteArray} (hs : SortK S) (hp : dn.Perm (S.map (·.1))) : sortS (dn.filter (preB p)) = keysB S p := by
  refine sortS_of (hp.filter _) <| List.Pairwise.sublist List.filter_sublist ?_
  rw [List.pairwise_map]; exact hs
def seenN (it : Nat) (w : World) : Nat := match w.heap[it]? with | some (.mapIter _ _ seen _) => seen.size | _ => 0
theorem seenN_of {m : Nat → Option Obj} {b it : Nat} {S : List KV} {done : List ByteArray} {oi : Obj} {w : World} (h : IterO m b S done oi) (hw : w.heap[it]? = some oi) : seenN it w = done.length := by
  obtain ⟨es, c, c0, l, seen, ds, h1, h2, h3, h4, h5, h6, h7, rfl, h9, h10, h11, h12, h13, h14⟩ := h
  unfold seenN; rw [hw]
  have e1 := congrArg List.length h12
  have e2 := congrArg List.length h13
  simp only [List.length_map, Array.length_toList] at e1 e2
  show seen.size = _
  omega
theorem len_sub {α : Type} [DecidableEq α] : ∀ {l m : List α}, l.Nodup → (∀ a ∈ l, a ∈ m) → l.length ≤ m.length
  | [], m, _, _ => Nat.zero_le _
  | a :: l, m, hn, hs => by
    rw [List.nodup_cons] at hn
    have ha := hs a List.mem_cons_self
    obtain ⟨s, t, rfl⟩ := List.append_of_mem ha
    have := len_sub (m := s ++ t) hn.2 (fun b hb => by
      have h1 := hs b (List.mem_cons_of_mem _ hb)
      rw [List.mem_append, List.mem_cons] at h1
      rw [List.mem_append]
      rcases h1 with h1 | h1 | h1
      · exact .inl h1
      · subst h1; exact absurd hb hn.1
      · exact .inr h1)
    simp only [List.length_append, List.length_cons] at this ⊢
    omega
theorem IterO.le {m : Nat → Option Obj} {b : Nat} {S : List KV} {done : List ByteArray} {oi : Obj} (h : IterO m b S done oi) : done.length ≤ S.length := by
  obtain ⟨h1, h2⟩ := h.nodup
  have := len_sub h1 h2
  rwa [List.length_map] at this
theorem seen_lt {m : Nat → Option Obj} {b it : Nat} {S : List KV} {done : List ByteArray} {k : ByteArray} {oi oi' : Obj} {w w' : World} (h : IterO m b S done oi) (hw : w.heap[it]? = some oi) (h' : IterO m b S (done ++ [k]) oi') (hw' : w'.heap[it]? = some oi') : S.length - seenN it w' < S.length - seenN it w := by
  rw [seenN_of h hw, seenN_of h' hw']
  have := h'.le
  rw [List.length_append, List.length_singleton] at this ⊢
  omega
theorem filter_t {dn : List ByteArray} {p k : ByteArray} (h : preB p k = true) : dn.filter (preB p) ++ [k] = (dn ++ [k]).filter (preB p) := by rw [List.filter_append]; simp [h]
theorem filter_f {dn : List ByteArray} {p k : ByteArray} (h : preB p k = false) : dn.filter (preB p) = (dn ++ [k]).filter (preB p) := by rw [List.filter_append]; simp [h]
theorem filter_len {dn : List ByteArray} {p : ByteArray} {n : Nat} (h : dn.length ≤ n) : (dn.filter (preB p)).length ≤ n := Nat.le_trans (List.length_filter_le _ _) h
/-! All pairs. -/
theorem lk_at {S : List KV} (hs : SortK S) {k : Nat} (hk : k < S.length) : ((S.map (·.1)).getD k ByteArray.empty, (lkA S ((S.map (·.1)).getD k ByteArray.empty)).getD []) = S.getD k (ByteArray.empty, []) := by
  have e : (S.map (·.1)).getD k ByteArray.empty = S[k].1 := by simp [List.getD_eq_getElem?_getD, hk]
  have e2 : S.getD k (ByteArray.empty, []) = S[k] := by simp [List.getD_eq_getElem?_getD, hk]
  rw [e, e2, lkA_of_mem hs.nodup (show (S[k].1, S[k].2) ∈ S from List.getElem_mem hk)]; rfl
theorem take_kv {S : List KV} {k : Nat} (hk : k < S.length) : S.take (k + 1) = S.take k ++ [S.getD k (ByteArray.empty, [])] := by
  rw [List.take_add_one, List.getElem?_eq_getElem hk]; simp [List.getD_eq_getElem?_getD, hk]
def AllP (m : Nat → Option Obj) (ps : List PairT) : Prop := ∀ a ∈ ps, a.gone = false ∧ Rd m u8 (slv a.val) a.val.2
theorem AllP.snoc {m : Nat → Option Obj} {ps : List PairT} {k : ByteArray} {v : Value} {l : List (BitVec 8)} (h : AllP m ps) (hr : Rd m u8 v l) : AllP m (ps ++ [PairT.mk k (toSl v l) false]) := fun a ha => by
  rcases List.mem_append.1 ha with ha | ha
  · exact h a ha
  · rw [List.mem_singleton.1 ha]; exact ⟨rfl, by rw [hr.toSl, toSl_snd]; exact hr⟩

set_option maxHeartbeats 2000000 in
theorem c_sget (bs bj b : Nat) (S : List KV) (key : ByteArray) (w0 : World)  (hs : blks w0 bs = some (.cells #[ptr bj 0, .map (some b)] 118 (0, 0))) (hmap : MapR (blks w0) b S) (hsm : SmallK S) (hsn : S.length ≤ 1048576) : CallsR Try.prog 47 #[(ptr bs 0), (Value.string key)] w0 (fun r w1 => ∃ v Hs, r = .tuple #[v, bl (lkA S key).isSome] ∧ Grow u8 5 v ((lkA S key).getD []) Hs ∧ Mem w1 (restOf w0) Hs) := by
 refine callsR_of_cw (args := [(ptr bs 0), (Value.string key)]) Try.func47 rfl Try.ntmps47 Try.results47 rfl ?_
 have hm0 : Mem w0 (restOf w0) [] := Mem.of_world w0
 have hvl := hsm.val key
 refine sR <| rw_q rfl (ev_assign (v := (Value.slice none 0 0)) rfl) <| rw_q rfl (ev_assign (v := (bl false)) rfl) ?_
 refine rN (sR ?_)
 refine rw_q rfl (ev_move (v := (ptr bs 0)) rfl) <| rw_q rfl (ev_nilCheck rfl) <| rw_q rfl (ev_fa (r := 1) uT118 rfl (by first | rfl | omega) ti116 rfl rfl) <| rw_q (v := (Value.map (some b))) rfl (ev_load1 uT116 rfl rfl (hm0.rest _ _ hs) rfl) <| rw_q rfl (ev_move (v := (Value.string key)) rfl) <| rw_c rfl (or_lookupRt (S := S) (k := key) hmap hm0 uT116 uT9 ti23 rfl rfl) ?_
 rintro _ w1 ⟨sv1, rfl, _ew1, hm1, hr1⟩
 refine rw_q rfl (ev_move (v := (Value.tuple #[sv1, (bl ((lkA S key).isSome))])) rfl) <| rw_q (v := sv1) rfl (ev_extract rfl rfl) <| rw_q (v := (bl ((lkA S key).isSome))) rfl (ev_extract rfl rfl) <| rA rfl (v := sv1) rfl <| rw_q rfl (ev_assign (v := (bl ((lkA S key).isSome))) rfl) ?_
 refine rN (sR ?_)
 refine rM rfl (v := sv1) rfl <| rw_c rfl (opR_call Try.func54 bd54 nm54 (args1 rfl) (c_clone sv1 ((lkA S key).getD []) _ (Rd.ofRest hr1 hm1) sL)) ?_
 rintro rq3 w2 ⟨Hsq3, grq3, k_w2⟩
 have hm2 : Mem w2 (restOf w0) (Hsq3 ++ ([])) := Mem.new (H := []) (H' := Hsq3) hm1 k_w2
 refine rw_q rfl (ev_move (v := (bl ((lkA S key).isSome))) rfl) <| rA rfl (v := rq3) rfl <| rw_q rfl (ev_assign (v := (bl ((lkA S key).isSome))) rfl) <| rN ?_
 refine CW.abs (fun g => g 0 = (ptr bs 0) ∧ g 1 = (Value.string key) ∧ g 4 = rq3 ∧ g 5 = (bl ((lkA S key).isSome)) ∧ g 6 = sv1 ∧ g 7 = (bl ((lkA S key).isSome)) ∧ True) ⟨rfl, rfl, rfl, rfl, rfl, rfl, trivial⟩ ?_
 rintro fr4 ⟨s0, s1, s4, s5, s6, s7, _⟩
 refine cw_ret <| fnPost_ret [rq3, (bl ((lkA S key).isSome))] ⟨s4, s5, trivial⟩ ?_
 exact ⟨_, Hsq3, rfl, grq3, by simpa using hm2⟩

set_option maxHeartbeats 2000000 in
theorem c_skeys (bs bj b : Nat) (S : List KV) (front : ByteArray) (w0 : World)  (hs : blks w0 bs = some (.cells #[ptr bj 0, .map (some b)] 118 (0, 0))) (hmap : MapR (blks w0) b S) (hsm : SmallK S) (hsn : S.length ≤ 1048576) : CallsR Try.prog 43 #[(ptr bs 0), (Value.string front)] w0 (fun r w1 => ∃ Hs, Grow strv 9 r (keysB S front) Hs ∧ Mem w1 (restOf w0) Hs) := by
 refine callsR_of_cw (args := [(ptr bs 0), (Value.string front)]) Try.func43 rfl Try.ntmps43 Try.results43 rfl ?_
 have hm0 : Mem w0 (restOf w0) [] := Mem.of_world w0
 refine sR <| rw_q rfl (ev_assign (v := (Value.slice none 0 0)) rfl) ?_
 refine rN (cw_seq (sR ?_))
 refine rw_q rfl (ev_move (v := (ptr bs 0)) rfl) <| rw_q rfl (ev_nilCheck rfl) <| rw_q rfl (ev_fa (r := 1) uT118 rfl (by first | rfl | omega) ti116 rfl rfl) <| rw_q (v := (Value.map (some b))) rfl (ev_load1 uT116 rfl rfl (hm0.rest _ _ hs) rfl) <| rw_c rfl (or_rangeR (S := S) hmap hm0 uT116 rfl) ?_
 rintro _ w1 ⟨b10, oi1, rfl, _ew1, hm1, hI1⟩
 refine rN (cw_block ?_)
 refine cw_loop (fun g wv => ∃ (dn : List ByteArray) (oi : Obj) (vo : Value) (Ho : List (Nat × Obj)), (IterO (restOf w0).blk b S dn oi) ∧ (Grow strv 9 vo (dn.filter (preB front)) Ho) ∧ g 0 = (ptr bs 0) ∧ g 1 = (Value.string front) ∧ g 4 = vo ∧ g 10 = (ptr b10 0) ∧ Mem wv (restOf w0) ([(b10, oi)] ++ (Ho ++ ([])))) (fun g wv => (S.length - seenN b10 wv)) ?_ ?_
 · exact ⟨[], oi1, (Value.slice none 0 0), [], hI1, (Grow.none strv 9), rfl, rfl, rfl, rfl, (by
   have hT := hm1
   try simp only [List.append_assoc, List.cons_append, List.nil_append, List.append_nil] at hT ⊢
   exact hT)⟩
 · rintro fr2 w3 ⟨dn, oi, vo, Ho, hit, go, s0, s1, s4, s10, hm3⟩
   have z4 := s4
   have z10 := s10
   have hdl := hit.le
   have hfl := filter_len (p := front) hdl
   refine sR <| rw_c rfl (or_nextR (done := dn) (H := Ho ++ ([])) hit hm3 s10) ?_
   rintro _ w4 ⟨nx4, kx4, sx4, oi4, rfl, hm4, hI4, hP4⟩
   refine rw_q (v := (bl nx4)) rfl (ev_extract_next rfl) ?_
   refine rN (cw_seq ?_)
   refine cw_cond rfl (fun hc5 => ?_) (fun hc5 => ?_)
   · -- true
     refine cw_skip (kThen_normal (cw_block' (sR ?_)))
     have hI6 := hI4
     rw [if_pos hc5] at hI6
     refine rw_c rfl (or_entryR (H := Ho ++ ([])) hI6 hm4 s10) ?_
     rintro _ w6 ⟨sx6, rfl, _ew6, hm6⟩
     refine rw_q (v := (Value.string kx4)) rfl (ev_extract rfl rfl) <| rw_q rfl (ev_assign (v := (Value.string kx4)) rfl) ?_
     refine rN (sR ?_)
     refine rw_q rfl (ev_move (v := (Value.string kx4)) rfl) <| rM rfl s1 <| rw_c rfl (opR_call Try.func65 bd65 nm65 (args2 rfl rfl) (c_hasprefix2 kx4 front _)) ?_
     rintro _ w7 ⟨rfl, _ew7⟩
     have hm7 := hm6.ext _ew7
     refine rN ?_
     refine cw_cond rfl (fun hc9 => ?_) (fun hc9 => ?_)
     · -- true
       refine cw_region <| rM rfl s4 <| rw_q rfl (ev_move (v := (Value.string kx4)) rfl) <| rw_c rfl (or_buildSlice_ones [(Value.string kx4)] (by simp [slc, ptr, Value.oneCell', i64, u8, u32, u64, bl]) hm7 uT76 ti9 rfl rfl rfl) ?_
       rintro _ w10 ⟨b20, rfl, _ew10, hm10⟩
       have hm10 : Mem w10 (restOf w0) ([(b20, .cells #[(Value.string kx4)] 9 (0, 0)), (b10, oi4)] ++ (Ho ++ ([]))) := hm10
       refine rw_c rfl (or_append (f := strv) (Hs := Ho) (H := [(b20, .cells #[(Value.string kx4)] 9 (0, 0)), (b10, oi4)]) (Mem.pick [_, _] Ho _ hm10) go rfl rfl (Rd.mkA (f := strv) (l := [kx4]) hm10.h0) uT76 uT76 ti9 rfl strv_one sL sL) ?_
       rintro sv11 w11 ⟨Hs11, hm11, g11⟩
       replace g11 : Grow strv 9 sv11 ((dn.filter (preB front)) ++ ([kx4])) Hs11 := g11
       refine rA rfl (v := sv11) rfl ?_
       refine rw_nil (kBlk_normal (kThen_normal ?_))
       have hm12 := Mem.drop ([(b20, .cells #[(Value.string kx4)] 9 (0, 0))]) _ (Mem.pick Hs11 [_] _ hm11)
       have hm13 := (Mem.pick Hs11 [_] _ hm12)
       exact ⟨⟨(dn ++ [kx4]), oi4, sv11, Hs11, hI6, (Grow.cast g11 (filter_t hc9)), s0, s1, rfl, s10, hm13⟩, seen_lt hit (hm3.own (_, _) List.mem_cons_self) hI6 (hm13.own (_, _) List.mem_cons_self)⟩
     · -- false
       refine cw_skip (kBlk_normal (kThen_normal ?_))
       exact ⟨⟨(dn ++ [kx4]), oi4, vo, Ho, hI6, (Grow.cast go (filter_f hc9)), s0, s1, s4, s10, hm7⟩, seen_lt hit (hm3.own (_, _) List.mem_cons_self) hI6 (hm7.own (_, _) List.mem_cons_self)⟩
   · -- false
     refine cw_exit ?_
     refine kThen_exit (kThen_exit (kBlk_hit ?_))
     refine sR <| rM rfl s4 ?_
     have hF15 : Mem w4 (restOf w0) ((Ho ++ ([])) ++ ([(b10, oi4)])) := by
       have hT := (Mem.pick [_] Ho _ hm4)
       try simp only [List.append_assoc, List.cons_append, List.nil_append, List.append_nil] at hT ⊢
       exact hT
     refine rw_c rfl (opR_call Try.func66 bd66 nm66 (args1 rfl) (c_msort vo (dn.filter (preB front)) Ho _ _ (Mem.give hF15) go sL)) ?_
     rintro _ w14 ⟨rfl, Hsq16, grq16, k_w14⟩
     have hm14 : Mem w14 (restOf w0) (Hsq16 ++ ([(b10, oi4)])) := (by
       have hT := Mem.back hF15 k_w14
       try simp only [List.append_assoc, List.cons_append, List.nil_append, List.append_nil] at hT ⊢
       exact hT)
     refine rN (sR ?_)
     refine rM rfl s4 <| rA rfl (v := vo) rfl ?_
     refine rN (cw_ret ?_)
     refine fnPost_ret [vo] ⟨rfl, trivial⟩ ?_
     have hm17 := Mem.drop ([(b10, oi4)]) _ (Mem.pick Hsq16 [_] _ hm14)
     exact ⟨Hsq16, Grow.cast grq16 (keysB_of hmap.sort (hP4 hc5)), by simpa using hm17⟩

set_option maxHeartbeats 2000000 in
theorem c_sall (b : Nat) (S : List KV) (w0 : World)  (hmap : MapR (blks w0) b S) (hsm : SmallK S) (hsn : S.length ≤ 1048576) : CallsR Try.prog 64 #[(Value.map (some b))] w0 (fun r w1 => ∃ ps Hs, ps.map kvOf = S ∧ AllP (blks w0) ps ∧ GrowK encP 3 79 r ps Hs ∧ Mem w1 (restOf w0) Hs) := by
 refine callsR_of_cw (args := [(Value.map (some b))]) Try.func64 rfl Try.ntmps64 Try.results64 rfl ?_
 have hm0 : Mem w0 (restOf w0) [] := Mem.of_world w0
 refine sR <| rw_q rfl (ev_assign (v := (Value.slice none 0 0)) rfl) ?_
 refine rN (cw_seq (sR ?_))
 refine rw_q rfl (ev_move (v := (Value.map (some b))) rfl) <| rw_c rfl (opR_call Try.func80 bd80 nm80 (args1 rfl) (c_mkeys b _)) ?_
 rintro _ w1 ⟨bkq2, rfl, k_w1⟩
 have hm1 : Mem w1 (restOf w0) [(bkq2, .cells #[(Value.map (some b))] 116 (0, 0))] := Mem.new (H := []) (H' := [(bkq2, .cells #[(Value.map (some b))] 116 (0, 0))]) hm0 k_w1
 refine rw_c rfl (opR_call Try.func79 bd79 nm79 (args1 rfl) (c_msorted bkq2 b S _ hm1.h0 (MapR.ofRest (R := (restOf w0)) hmap hm1) hsm.keys sL)) ?_
 rintro r w3 ⟨Hsq4, grq4, k_w3⟩
 have hm3 : Mem w3 (restOf w0) (Hsq4 ++ ([(bkq2, .cells #[(Value.map (some b))] 116 (0, 0))])) := Mem.new (H := [(bkq2, .cells #[(Value.map (some b))] 116 (0, 0))]) (H' := Hsq4) hm1 k_w3
 refine rw_q (v := (i64 ((S.map (·.1)).length : Int))) rfl (ev_len_rd (grq4.rd hm3) uT76 rfl) <| rw_q rfl (ev_move (v := (i64 0)) rfl) ?_
 refine rN (cw_block ?_)
 refine cw_loop (fun g wv => ∃ (k : Nat) (vo : Value) (ps : List PairT) (Ho : List (Nat × Obj)), (k ≤ (S.map (·.1)).length) ∧ (ps.map kvOf = S.take k) ∧ (ps.length = k) ∧ (AllP (blks w0) ps) ∧ (GrowK encP 3 79 vo ps Ho) ∧ g 0 = (Value.map (some b)) ∧ g 2 = vo ∧ g 7 = r ∧ g 8 = (i64 ((S.map (·.1)).length : Int)) ∧ g 9 = (i64 (k : Int)) ∧ Mem wv (restOf w0) (Hsq4 ++ (Ho ++ ([])))) (fun g wv => (((S.map (·.1)).length : Int) - RowKit.intOf (g 9)).toNat) ?_ ?_
 have hm5 := Mem.drop ([(bkq2, .cells #[(Value.map (some b))] 116 (0, 0))]) _ (Mem.pick Hsq4 [_] _ hm3)
 · exact ⟨0, (Value.slice none 0 0), [], [], (Nat.zero_le _), rfl, rfl, (fun a h => by cases h), (GrowK.none encP 3 79), rfl, rfl, rfl, rfl, rfl, (by
   have hT := hm5
   try simp only [List.append_assoc, List.cons_append, List.nil_append, List.append_nil] at hT ⊢
   exact hT)⟩
 · rintro fr6 w7 ⟨k, vo, ps, Ho, hk, hps, hpl, hap, go, s0, s2, s7, s8, s9, hm7⟩
   have z2 := s2
   have z9 := s9
   refine sR <| rw_q rfl (ev_i64_lss s9 s8) ?_
   refine rN (cw_seq ?_)
   refine cw_cond rfl (fun hc8 => ?_) (fun hc8 => ?_)
   · -- true
     have hc8p := of_decide_eq_true hc8
     have hkS : k < S.length := by rw [List.length_map] at *; omega
     refine cw_skip (kThen_normal (cw_seq (cw_block (sR ?_))))
     refine rw_q rfl (ev_indexAddr_rdv (grq4.rd hm7) uT76 ti9 s7 s9 oM sL) <| rw_q (v := (Value.string ((S.map (·.1)).getD k ByteArray.empty))) rfl (ev_load_rdD (l := (S.map (·.1))) (i := (k : Int)) (dflt := ByteArray.empty) (grq4.rd hm7) uT9 rfl oM sL rfl) <| rw_q rfl (ev_assign (v := (Value.string ((S.map (·.1)).getD k ByteArray.empty))) rfl) ?_
     refine rN (cw_region ?_)
     refine rM rfl s2 <| rw_q rfl (ev_move (v := (Value.string ((S.map (·.1)).getD k ByteArray.empty))) rfl) <| rM rfl s0 <| rw_q rfl (ev_move (v := (Value.string ((S.map (·.1)).getD k ByteArray.empty))) rfl) <| rw_c rfl (or_lookupR (S := S) (k := ((S.map (·.1)).getD k ByteArray.empty)) hmap hm7 uT116 uT9 ti23 rfl rfl) ?_
     rintro sv9 w9 ⟨_ew9, hm9, hr9⟩
     refine rw_q rfl (ev_build_pt (c := #[(Value.string ((S.map (·.1)).getD k ByteArray.empty)), sv9, (bl false)]) (pl := [(0, 1), (1, 1), (2, 1)]) ti79 uT79 (by kernel_rfl) (pm_cons (i := 0) (v := (Value.string ((S.map (·.1)).getD k ByteArray.empty))) (cs := #[(Value.string ((S.map (·.1)).getD k ByteArray.empty))]) rfl rfl (pm_cons (i := 1) (v := sv9) (cs := #[sv9]) rfl (one_cells (Rd.one (Rd.ofRest hr9 hm9))) pm_nil)) (by kernel_rfl)) <| rw_c rfl (or_buildSlice_p (c := #[(Value.string ((S.map (·.1)).getD k ByteArray.empty)), sv9, (bl false)]) hm9 uT55 ti79 rfl (pm_cons rfl rfl pm_nil) (by kernel_rfl)) ?_
     rintro _ w10 ⟨b19, rfl, _ew10, hm10⟩
     have hm10 : Mem w10 (restOf w0) ([(b19, .cells #[(Value.string ((S.map (·.1)).getD k ByteArray.empty)), sv9, (bl false)] 79 (0, 0))] ++ (Hsq4 ++ (Ho ++ ([])))) := hm10
     refine rw_c rfl (or_appendK (enc := encP) (k := 3) (Hs := Ho) (H := [(b19, .cells #[(Value.string ((S.map (·.1)).getD k ByteArray.empty)), sv9, (bl false)] 79 (0, 0))] ++ (Hsq4 ++ ([]))) (Mem.pick2 [_] Hsq4 Ho _ hm10) go rfl rfl (RdK.ofAll (enc := encP) (k := 3) (l := [(PairT.mk ((S.map (·.1)).getD k ByteArray.empty) (toSl sv9 ((lkA S ((S.map (·.1)).getD k ByteArray.empty)).getD [])) false)]) hm10.h0 (by show _ = #[_, slv (toSl sv9 ((lkA S ((S.map (·.1)).getD k ByteArray.empty)).getD [])), _]; rw [Rd.toSl ((lkA S ((S.map (·.1)).getD k ByteArray.empty)).getD []) (Rd.ofRest hr9 hm10)]) (fun _ _ => rfl)) uT55 uT55 ti79 rfl rfl (fun a _ => encP_one a) sL sL) ?_
     rintro sv11 w11 ⟨Hs11, hm11, g11⟩
     replace g11 : GrowK encP 3 79 sv11 (ps ++ ([(PairT.mk ((S.map (·.1)).getD k ByteArray.empty) (toSl sv9 ((lkA S ((S.map (·.1)).getD k ByteArray.empty)).getD [])) false)])) Hs11 := g11
     refine rA rfl (v := sv11) rfl ?_
     refine rw_nil (kBlk_normal (cw_region ?_))
     refine rw_q rfl (ev_i64_add (b := 1) s9 rfl oM oM) <| rw_q rfl (ev_move (v := (i64 ((k : Int) + 1))) rfl) <| rN ?_
     have hm12 := Mem.drop ([(b19, .cells #[(Value.string ((S.map (·.1)).getD k ByteArray.empty)), sv9, (bl false)] 79 (0, 0))]) _ (Mem.pick Hs11 [_] _ hm11)
     have hm13 := (Mem.pick Hs11 Hsq4 _ hm12)
     exact ⟨⟨(k + 1), sv11, (ps ++ ([(PairT.mk ((S.map (·.1)).getD k ByteArray.empty) (toSl sv9 ((lkA S ((S.map (·.1)).getD k ByteArray.empty)).getD [])) false)])), Hs11, oM, (by rw [take_kv hkS, List.map_append, hps, ← lk_at hmap.sort hkS]; simp [kvOf, toSl_snd]), (by rw [List.length_append, hpl]; rfl), (AllP.snoc hap hr9), g11, s0, rfl, s7, s8, rfl, hm13⟩, meas (rfl) z9 oM oM⟩
   · -- false
     have hc8p := of_decide_eq_false hc8
     refine cw_exit ?_
     refine kThen_exit (kThen_exit (kBlk_hit ?_))
     refine sR <| rM rfl s2 <| rA rfl (v := vo) rfl ?_
     refine rN (cw_ret ?_)
     refine fnPost_ret [vo] ⟨rfl, trivial⟩ ?_
     have hm14 := Mem.drop Hsq4 _ hm7
     have hkl : k = S.length := by rw [List.length_map] at *; omega
     exact ⟨ps, Ho, by rw [hps, hkl, List.take_length], hap, go, by simpa using hm14⟩


end Go.Proofs.Ytfbnhoolkajebaa
