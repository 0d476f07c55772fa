/- Contract: the pairs of bytes. Conditions: none beyond those that each theorem states. -/
import Derived.Test.YtfbnhoolkajebaaSo3
import Derived.Test.YtfbnhoolkajebaaSo2
namespace Go.Proofs.Ytfbnhoolkajebaa
set_option linter.unusedVariables false
set_option linter.unusedSimpArgs false
/-! ### The pairs of bytes -/
theorem encP_one (a : PairT) : (encP a).all (·.oneCell') = true := rfl
def oneOf (p : PairT) : OneT := ⟨bytesL p.key, p.val.2, p.gone⟩
theorem bytesL_strOf (l : List (BitVec 8)) : bytesL (strOf l) = l := by
  unfold bytesL strOf
  simp [Function.comp_def]
theorem strOf_size (l : List (BitVec 8)) : (strOf l).size = l.length := by rw [← bytesL_length, bytesL_strOf]
section
variable {b : List (BitVec 8)} {f : Nat} {pre : List OneT} {D : Option (List OneT)}
theorem dec_end (h : b.length = 0) (hD : (decF f b).map (pre ++ ·) = D) : D = some pre := by
  have e : decF f b = some [] := by cases f <;> (unfold decF; rw [if_pos h])
  rw [← hD, e]; simp
theorem dec_no (h : 0 < b.length) (hn : oneOk b = false) (hD : (decF f b).map (pre ++ ·) = D) : D = none := by
  have e : decF f b = none := by
    cases f
    · unfold decF; rw [if_neg oM]
    · unfold decF; rw [if_neg oM, hn]; rfl
  rw [← hD, e]; rfl
theorem dec_more (h : 0 < b.length) (hf : b.length ≤ f) (hn : oneOk b = true) (hD : (decF f b).map (pre ++ ·) = D) : (oneR b).length ≤ f - 1 ∧ (decF (f - 1) (oneR b)).map ((pre ++ [oneP b]) ++ ·) = D := by
  obtain ⟨g, rfl⟩ : ∃ g, f = g + 1 := ⟨f - 1, by omega⟩
  have hl := oneR_lt h
  refine ⟨by omega, ?_⟩
  rw [← hD, Nat.add_sub_cancel]
  conv => rhs; unfold decF
  rw [if_neg oM, hn, if_pos rfl, Option.map_map]
  congr 1
  funext l
  simp
theorem ok_1 (h : tkOk (b.drop 1) 2 = false) : oneOk b = false := by unfold oneOk; rw [h]; rfl
theorem ok_2 (h : tkOk (b.drop (3 + kN b)) 4 = false) : oneOk b = false := by unfold oneOk; rw [h, Bool.false_and, Bool.and_false]
theorem drop_1 (h : 0 < b.length) : (b.drop (1 : Int).toNat).take (((b.length : Int) : Int).toNat - (1 : Int).toNat) = b.drop 1 := by
  show (b.drop 1).take ((b.length : Int).toNat - 1) = _
  rw [Int.toNat_natCast, List.take_of_length_le (by simp)]
theorem tk_k : ((b.drop 1).drop 2).take (tkN (b.drop 1) 2) = (b.drop 3).take (kN b) := by unfold tkN kN; rw [List.drop_drop]
theorem tk_kr : (b.drop 1).drop (2 + tkN (b.drop 1) 2) = b.drop (3 + kN b) := by unfold tkN kN; rw [List.drop_drop]; congr 1; omega
theorem tk_v : ((b.drop (3 + kN b)).drop 4).take (tkN (b.drop (3 + kN b)) 4) = (b.drop (7 + kN b)).take (vN_ b) := by
  unfold tkN vN_; rw [List.drop_drop]; congr 2; omega
theorem tk_vr : (b.drop (3 + kN b)).drop (4 + tkN (b.drop (3 + kN b)) 4) = oneR b := by
  unfold tkN oneR vN_; rw [List.drop_drop]; congr 1; omega
theorem k_len (h : tkOk (b.drop 1) 2 = true) : ((b.drop 3).take (kN b)).length = kN b := by
  obtain ⟨h1, h2⟩ := tk_t h
  rw [List.length_drop] at h1 h2
  have : tkN (b.drop 1) 2 = kN b := rfl
  rw [List.length_take, List.length_drop]; omega
theorem v_len (h : tkOk (b.drop (3 + kN b)) 4 = true) : ((b.drop (7 + kN b)).take (vN_ b)).length = vN_ b := by
  obtain ⟨h1, h2⟩ := tk_t h
  rw [List.length_drop] at h1 h2
  have : tkN (b.drop (3 + kN b)) 4 = vN_ b := rfl
  rw [List.length_take, List.length_drop]; omega
theorem ok_3 (h1 : tkOk (b.drop 1) 2 = true) (h2 : tkOk (b.drop (3 + kN b)) 4 = true) : oneOk b = (decide ((b.getD 0 0).toNat ≤ 1) && rightB (kN b) (vN_ b) ((b.getD 0 0) == 1#8)) := by unfold oneOk; rw [h1, h2]; rfl
end
/-- The bytes' pairs; the error's number. -/
def decV (b : List (BitVec 8)) : List OneT := (decP b).getD []
def decE (b : List (BitVec 8)) : Int := if (decP b).isSome then 0 else 3
theorem dec_yes {b : List (BitVec 8)} {l : List OneT} (h : decP b = some l) : decV b = l ∧ decE b = 0 := by unfold decV decE; rw [h]; exact ⟨rfl, rfl⟩
theorem dec_none {b : List (BitVec 8)} (h : decP b = none) : decV b = [] ∧ decE b = 3 := by unfold decV decE; rw [h]; exact ⟨rfl, rfl⟩
/-- Each pair's bytes stand in these blocks. -/
def ElP (He : List (Nat × Obj)) (ps : List PairT) : Prop := ∀ p ∈ ps, ∀ m : Nat → Option Obj, (∀ q ∈ He, m q.1 = some q.2) → Rd m u8 (slv p.val) p.val.2
theorem ElP.nil : ElP [] [] := fun p h => by cases h
theorem ElP.snoc {He H1 : List (Nat × Obj)} {ps : List PairT} {E : TypeId} {k : ByteArray} {v : Value} {l : List (BitVec 8)} {g : Bool} (h : ElP He ps) (hg : Grow u8 E v l H1) : ElP (H1 ++ He) (ps ++ [PairT.mk k (toSl v l) g]) := fun p hp m hm => by
  rcases List.mem_append.1 hp with hp | hp
  · exact h p hp m fun q hq => hm q (List.mem_append_right _ hq)
  · obtain rfl := List.mem_singleton.1 hp
    show Rd m u8 (slv (toSl v l)) (toSl v l).2
    rw [Grow.toSl l hg, toSl_snd]
    exact hg.rdIn fun q hq => hm q (List.mem_append_left _ hq)
def sllenN (v : Value) : Nat := match v with | .slice _ n _ => n | _ => 0
theorem sllenN_lt {m : Nat → Option Obj} {x x' v v' : Value} {l l' : List (BitVec 8)} (e' : x' = v') (e : x = v) (h' : Rd m u8 v' l') (h : Rd m u8 v l) (hl : l'.length < l.length) : sllenN x' < sllenN x := by
  subst e' e
  obtain ⟨a, c, rfl, _, _⟩ := h.is
  obtain ⟨a', c', rfl, _, _⟩ := h'.is
  exact hl
theorem kN_lt (b : List (BitVec 8)) : kN b < 65536 := by
  have := (getB_nat ((b.drop 1).take 2) (by simp; omega)).2
  have h2 : 256 ^ ((b.drop 1).take 2).length ≤ 256 ^ 2 := Nat.pow_le_pow_right (by decide) (by simp; omega)
  unfold kN; omega
theorem smallP_step {lc : List PairT} {k : Nat} (h : ∀ i, i < k → (lc.getD i pair0).key.size ≤ 1100 ∧ (lc.getD i pair0).val.2.length ≤ 2000) (hk : (lc.getD k pair0).key.size ≤ 1100 ∧ (lc.getD k pair0).val.2.length ≤ 2000) : ∀ i, i < k + 1 → (lc.getD i pair0).key.size ≤ 1100 ∧ (lc.getD i pair0).val.2.length ≤ 2000 := fun i hi => by
  rcases Nat.lt_succ_iff_lt_or_eq.1 hi with h1 | h1
  · exact h i h1
  · subst h1; exact hk
theorem smallP_all {lc : List PairT} (h : ∀ i, i < lc.length → (lc.getD i pair0).key.size ≤ 1100 ∧ (lc.getD i pair0).val.2.length ≤ 2000) : ∀ a ∈ lc, a.key.size ≤ 1048576 ∧ a.val.2.length ≤ 1048576 := fun a ha => by
  obtain ⟨i, hi, rfl⟩ := List.mem_iff_getElem.1 ha
  have := h i hi
  rw [show lc.getD i pair0 = lc[i] by simp [List.getD_eq_getElem?_getD, hi]] at this
  omega
/-! The document's way through the bytes. -/
section
variable {b : List (BitVec 8)} {a : Nat}
theorem natB_4 {l : List (BitVec 8)} (h : 4 ≤ l.length) : natB (l.take 4) = 16777216 * (l.getD 0 0).toNat + 65536 * (l.getD 1 0).toNat + 256 * (l.getD 2 0).toNat + (l.getD 3 0).toNat := by
  match l, h with
  | x :: y :: z :: w :: r, _ =>
    show (((0 * 256 + x.toNat) * 256 + y.toNat) * 256 + z.toNat) * 256 + w.toNat = 16777216 * x.toNat + 65536 * y.toNat + 256 * z.toNat + w.toNat
    omega
theorem getD_drop {i : Nat} : (b.drop a).getD i 0 = b.getD (a + i) 0 := by simp [List.getD_eq_getElem?_getD]
theorem tk_iff {l : List (BitVec 8)} {s : Nat} : tkOk l s = true ↔ s ≤ l.length ∧ tkN l s ≤ l.length - s := by
  unfold tkOk tkN; rw [Bool.and_eq_true, decide_eq_true_eq, decide_eq_true_eq]
theorem tkN_1 {l : List (BitVec 8)} : tkN (l.drop 1) 2 = kN l := rfl
theorem tkN_2 {l : List (BitVec 8)} : tkN (l.drop (3 + kN l)) 4 = vN_ l := rfl
end
attribute [local irreducible] natB tkN tkOk kN vN_ oneOk oneR decF decP decV decE rightB
set_option maxHeartbeats 2000000 in
theorem c_sdecode (vb : Value) (b : List (BitVec 8)) (w0 : World)  (hb : Rd (blks w0) u8 vb b) (hbl : b.length ≤ 1048576) : CallsR Try.prog 34 #[vb] w0 (fun r w1 => ∃ v ps Ho He, r = .tuple #[v, i64 (decE b)] ∧ ps.map oneOf = decV b ∧ GrowK encP 3 79 v ps Ho ∧ ElP He ps ∧ Mem w1 (restOf w0) (Ho ++ He)) := by
 refine callsR_of_cw (args := [vb]) Try.func34 rfl Try.ntmps34 Try.results34 rfl ?_
 have hm0 : Mem w0 (restOf w0) [] := Mem.of_world w0
 refine sR <| rw_q rfl (ev_assign (v := (Value.slice none 0 0)) rfl) <| rw_q rfl (ev_assign (v := (i64 0)) rfl) ?_
 refine rN (cw_seq (cw_block ?_))
 refine cw_loop (fun g wv => ∃ (f : Nat) (bq : List (BitVec 8)) (vb1 : Value) (vo : Value) (ps : List PairT) (Ho He : List (Nat × Obj)), (bq.length ≤ f) ∧ (f ≤ b.length) ∧ (Rd (blks w0) u8 vb1 bq) ∧ ((decF f bq).map (ps.map oneOf ++ ·) = decP b) ∧ (ps.length + bq.length ≤ b.length) ∧ (GrowK encP 3 79 vo ps Ho) ∧ (ElP He ps) ∧ g 0 = vb1 ∧ g 2 = vo ∧ Mem wv (restOf w0) (Ho ++ (He ++ ([])))) (fun g wv => sllenN (g 0)) ?_ ?_
 · exact ⟨b.length, b, vb, (Value.slice none 0 0), [], [], [], (Nat.le_refl _), (Nat.le_refl _), hb, (by show (decF b.length b).map ([] ++ ·) = _; unfold decP; simp), (by show 0 + b.length ≤ _; omega), (GrowK.none encP 3 79), ElP.nil, rfl, rfl, hm0⟩
 · rintro fr1 w2 ⟨f, bq, vb1, vo, ps, Ho, He, hf, hfb, hvb, hD, hpl, go, hel, s0, s2, hm2⟩
   have z0 := s0
   have z2 := s2
   refine cw_seq (sR ?_)
   refine rM rfl s0 <| rw_q (v := (i64 (bq.length : Int))) rfl (ev_len_rd (Rd.ofRest hvb hm2) uT23 rfl) <| rw_q rfl (ev_i64_gtr (b := 0) rfl rfl) <| rN ?_
   refine cw_cond rfl (fun hc3 => ?_) (fun hc3 => ?_)
   · -- true
     have hc3p := of_decide_eq_true hc3
     have hl0 : 0 < bq.length := by omega
     refine cw_skip (kThen_normal (cw_block' (sR ?_)))
     refine rM rfl s0 <| rw_q rfl (ev_indexAddr_rdv (i := 0) (Rd.ofRest hvb hm2) uT23 ti5 rfl rfl oM sL) <| rw_q (v := (u8 (bq.getD 0 0))) rfl (ev_load_rdD (l := bq) (i := 0) (dflt := 0) (Rd.ofRest hvb hm2) uT5 rfl oM sL rfl) <| rw_q rfl (ev_u8_eql (b := 1#8) rfl rfl) <| rw_q rfl (ev_build_pt (c := #[(Value.string ByteArray.empty), (Value.slice none 0 0), (bl ((bq.getD 0 0) == 1#8))]) (pl := [(0, 1), (1, 1), (2, 1)]) ti79 uT79 (by kernel_rfl) (pm_cons (i := 2) (v := (bl ((bq.getD 0 0) == 1#8))) (cs := #[(bl ((bq.getD 0 0) == 1#8))]) rfl rfl pm_nil) (by kernel_rfl)) <| rw_c rfl (or_allocX hm2 ti79) ?_
     rintro _ w4 ⟨b4, rfl, _ew4, hm4⟩
     refine rw_n (or_storeW (cs := #[(Value.string ByteArray.empty), (Value.slice none 0 0), (bl ((bq.getD 0 0) == 1#8))]) ti79 rfl rfl (by kernel_rfl) (one_arr (one_cons rfl (one_cons rfl (one_cons rfl one_nil)))) hm4.h0 (by kernel_rfl) rfl) ?_
     rintro _ w5 uq5
     have hm5 : Mem w5 (restOf w0) ([(b4, .cells #[(Value.string ByteArray.empty), (Value.slice none 0 0), (bl ((bq.getD 0 0) == 1#8))] 79 (0, 0))] ++ (Ho ++ (He ++ ([])))) := hm4.upd0 uq5
     refine rN (cw_seq ?_)
     rcases Bool.eq_false_or_eq_true (tkOk (bq.drop 1) 2) with hb6 | hb6
     · -- true
       refine cw_region <| rM rfl s0 <| rw_q rfl (ev_slice_rd (i := 1) (j := (bq.length : Int)) (Rd.ofRest hvb hm5) uT23 ti5 rfl (optI_some (k := .i64) (i := 1) rfl) (optI_none _ _) oM sL sL) <| rw_c rfl (opR_call Try.func61 bd61 nm61 (args2 rfl rfl) (c_stake1 (subv vb1 1 (bq.length : Int)) ((bq.drop (1 : Int).toNat).take (((bq.length : Int) : Int).toNat - (1 : Int).toNat)) 2 _ (Rd.cast (l' := (bq.drop (1 : Int).toNat).take (((bq.length : Int) : Int).toNat - (1 : Int).toNat)) (Rd.sub (Rd.ofRest hvb hm5) oM sL sL) rfl) sL sL (by rw [drop_1 hl0]; exact hb6))) ?_
       rintro _ w7 ⟨rfl, _ew7⟩
       have hm7 := hm5.ext _ew7
       have hkl := k_len hb6
       have hkn := kN_lt bq
       have hks : (strOf ((bq.drop 3).take (kN bq))).size = kN bq := by rw [strOf_size]; exact hkl
       refine rM rfl rfl <| rw_q (v := (tkP (subv vb1 1 (bq.length : Int)) ((bq.drop (1 : Int).toNat).take (((bq.length : Int) : Int).toNat - (1 : Int).toNat)) 2)) rfl (ev_extract rfl rfl) <| rw_q (v := (tkR (subv vb1 1 (bq.length : Int)) ((bq.drop (1 : Int).toNat).take (((bq.length : Int) : Int).toNat - (1 : Int).toNat)) 2)) rfl (ev_extract rfl rfl) <| rw_q (v := (bl true)) rfl (ev_extract rfl rfl) <| rA rfl rfl <| rA rfl rfl ?_
       refine rw_q rfl (ev_assign (v := (bl true)) rfl) <| rN ?_
       refine CW.abs (fun g => g 0 = vb1 ∧ g 2 = vo ∧ g 4 = (ptr b4 0) ∧ g 5 = (tkP (subv vb1 1 (bq.length : Int)) ((bq.drop (1 : Int).toNat).take (((bq.length : Int) : Int).toNat - (1 : Int).toNat)) 2) ∧ g 6 = (tkR (subv vb1 1 (bq.length : Int)) ((bq.drop (1 : Int).toNat).take (((bq.length : Int) : Int).toNat - (1 : Int).toNat)) 2) ∧ g 7 = (bl true) ∧ g 10 = (bl (decide (0 < (bq.length : Int)))) ∧ True) ⟨s0, s2, rfl, rfl, rfl, rfl, rfl, trivial⟩ ?_
       rintro fr9 ⟨s0, s2, s4, s5, s6, s7, s10, _⟩
       refine cw_seq (sR ?_)
       refine rM rfl s7 <| rN <| cw_cond_t rfl (by decide) ?_
       rcases Bool.eq_false_or_eq_true (tkOk (bq.drop (3 + kN bq)) 4) with hb10 | hb10
       · -- true
         refine cw_region <| rM rfl s6 <| rw_c rfl (opR_call Try.func61 bd61 nm61 (args2 rfl rfl) (c_stake1 (tkR (subv vb1 1 (bq.length : Int)) ((bq.drop (1 : Int).toNat).take (((bq.length : Int) : Int).toNat - (1 : Int).toNat)) 2) (bq.drop (3 + kN bq)) 4 _ (Rd.cast (l' := (bq.drop (3 + kN bq))) (rd_tkR (Rd.cast (l' := (bq.drop (1 : Int).toNat).take (((bq.length : Int) : Int).toNat - (1 : Int).toNat)) (Rd.sub (Rd.ofRest hvb hm7) oM sL sL) rfl) (by rw [drop_1 hl0]; exact hb6)) (by rw [drop_1 hl0]; exact tk_kr)) sL sL hb10)) ?_
         rintro _ w11 ⟨rfl, _ew11⟩
         have hm11 := hm7.ext _ew11
         have hvl := v_len hb10
         have ho3 := ok_3 hb6 hb10
         refine rM rfl rfl <| rw_q (v := (tkP (tkR (subv vb1 1 (bq.length : Int)) ((bq.drop (1 : Int).toNat).take (((bq.length : Int) : Int).toNat - (1 : Int).toNat)) 2) (bq.drop (3 + kN bq)) 4)) rfl (ev_extract rfl rfl) <| rw_q (v := (tkR (tkR (subv vb1 1 (bq.length : Int)) ((bq.drop (1 : Int).toNat).take (((bq.length : Int) : Int).toNat - (1 : Int).toNat)) 2) (bq.drop (3 + kN bq)) 4)) rfl (ev_extract rfl rfl) <| rw_q (v := (bl true)) rfl (ev_extract rfl rfl) <| rw_q rfl (ev_fa (r := 1) uT79 rfl (by first | rfl | omega) ti23 rfl s4) <| rw_n (or_store1 ti23 rfl rfl (Rd.one (Rd.cast (l' := ((bq.drop (7 + kN bq)).take (vN_ bq))) (rd_tkP (Rd.cast (l' := (bq.drop (3 + kN bq))) (rd_tkR (Rd.cast (l' := (bq.drop (1 : Int).toNat).take (((bq.length : Int) : Int).toNat - (1 : Int).toNat)) (Rd.sub (Rd.ofRest hvb hm11) oM sL sL) rfl) (by rw [drop_1 hl0]; exact hb6)) (by rw [drop_1 hl0]; exact tk_kr)) hb10) tk_v)) hm11.h0 (by simp) (.inl (Nat.zero_le _))) ?_
         rintro _ w13 uq13
         have hm13 : Mem w13 (restOf w0) ([(b4, .cells #[(Value.string ByteArray.empty), (tkP (tkR (subv vb1 1 (bq.length : Int)) ((bq.drop (1 : Int).toNat).take (((bq.length : Int) : Int).toNat - (1 : Int).toNat)) 2) (bq.drop (3 + kN bq)) 4), (bl ((bq.getD 0 0) == 1#8))] 79 (0, 0))] ++ (Ho ++ (He ++ ([])))) := hm11.upd0 uq13
         refine rA rfl rfl <| rw_q rfl (ev_assign (v := (bl true)) rfl) ?_
         refine rN (cw_seq ?_)
         refine cw_draw [(0, false), (1, false), (2, false), (3, false), (5, false), (4, true)] 6 (by kernel_rfl) <| dM rfl rfl s5 <| dw_q rfl rfl (fun _ _hx => ev_b2s (l := ((bq.drop 3).take (kN bq))) (Rd.cast (l' := ((bq.drop 3).take (kN bq))) (rd_tkP (Rd.cast (l' := (bq.drop (1 : Int).toNat).take (((bq.length : Int) : Int).toNat - (1 : Int).toNat)) (Rd.sub (Rd.ofRest hvb (hm13.ext _hx)) oM sL sL) rfl) (by rw [drop_1 hl0]; exact hb6)) (by rw [drop_1 hl0]; exact tk_k)) uT23 uT5 uT9 rfl) <| dw_q rfl rfl (fun _ _hx => ev_fa (r := 1) uT79 rfl (by first | rfl | omega) ti23 rfl s4) <| dw_q (v := (tkP (tkR (subv vb1 1 (bq.length : Int)) ((bq.drop (1 : Int).toNat).take (((bq.length : Int) : Int).toNat - (1 : Int).toNat)) 2) (bq.drop (3 + kN bq)) 4)) rfl rfl (fun _ _hx => ev_load1 uT23 rfl rfl (hm13.ext _hx).h0 rfl) <| dw_q rfl rfl (fun _ _hx => ev_fa (r := 0) uT79 rfl (by first | rfl | omega) ti9 rfl s4) ?_
         refine dw_c rfl rfl (fun w14 _ew14 => ?_)
         have hm14 := hm13.ext _ew14
         refine OpR.mono (opR_call Try.func54 bd54 nm54 (args1 rfl) (c_clone (tkP (tkR (subv vb1 1 (bq.length : Int)) ((bq.drop (1 : Int).toNat).take (((bq.length : Int) : Int).toNat - (1 : Int).toNat)) 2) (bq.drop (3 + kN bq)) 4) ((bq.drop (7 + kN bq)).take (vN_ bq)) _ (Rd.cast (l' := ((bq.drop (7 + kN bq)).take (vN_ bq))) (rd_tkP (Rd.cast (l' := (bq.drop (3 + kN bq))) (rd_tkR (Rd.cast (l' := (bq.drop (1 : Int).toNat).take (((bq.length : Int) : Int).toNat - (1 : Int).toNat)) (Rd.sub (Rd.ofRest hvb hm14) oM sL sL) rfl) (by rw [drop_1 hl0]; exact hb6)) (by rw [drop_1 hl0]; exact tk_kr)) hb10) tk_v) sL)) ?_
         rintro rq16 w15 ⟨Hsq16, grq16, k_w15⟩
         refine ⟨k_w15.toExt, ?_⟩
         have hm15 : Mem w15 (restOf w0) (Hsq16 ++ ([(b4, .cells #[(Value.string ByteArray.empty), (tkP (tkR (subv vb1 1 (bq.length : Int)) ((bq.drop (1 : Int).toNat).take (((bq.length : Int) : Int).toNat - (1 : Int).toNat)) 2) (bq.drop (3 + kN bq)) 4), (bl ((bq.getD 0 0) == 1#8))] 79 (0, 0))] ++ (Ho ++ (He ++ ([]))))) := Mem.new (H := [(b4, .cells #[(Value.string ByteArray.empty), (tkP (tkR (subv vb1 1 (bq.length : Int)) ((bq.drop (1 : Int).toNat).take (((bq.length : Int) : Int).toNat - (1 : Int).toNat)) 2) (bq.drop (3 + kN bq)) 4), (bl ((bq.getD 0 0) == 1#8))] 79 (0, 0))] ++ (Ho ++ (He ++ ([])))) (H' := Hsq16) hm14 k_w15
         refine dw_nil (fun w17 _ew17 => ?_)
         have hm17 := hm15.ext _ew17
         refine rw_n (or_store1 ti9 rfl rfl rfl ((Mem.pick Hsq16 [_] _ hm17)).h0 (by simp) (.inl (Nat.zero_le _))) ?_
         rintro _ w18 uq18
         have hm18 : Mem w18 (restOf w0) ([(b4, .cells #[(Value.string (strOf ((bq.drop 3).take (kN bq)))), (tkP (tkR (subv vb1 1 (bq.length : Int)) ((bq.drop (1 : Int).toNat).take (((bq.length : Int) : Int).toNat - (1 : Int).toNat)) 2) (bq.drop (3 + kN bq)) 4), (bl ((bq.getD 0 0) == 1#8))] 79 (0, 0))] ++ (Hsq16 ++ (Ho ++ (He ++ ([]))))) := Mem.upd0 (Mem.pick Hsq16 [_] _ hm17) uq18
         refine rw_q rfl (ev_fa (r := 1) uT79 rfl (by first | rfl | omega) ti23 rfl s4) <| rw_n (or_store1 ti23 rfl rfl grq16.one hm18.h0 (by simp) (.inl (Nat.zero_le _))) ?_
         rintro _ w19 uq19
         have hm19 : Mem w19 (restOf w0) ([(b4, .cells #[(Value.string (strOf ((bq.drop 3).take (kN bq)))), rq16, (bl ((bq.getD 0 0) == 1#8))] 79 (0, 0))] ++ (Hsq16 ++ (Ho ++ (He ++ ([]))))) := hm18.upd0 uq19
         refine rN ?_
         refine CW.abs (fun g => g 0 = vb1 ∧ g 2 = vo ∧ g 4 = (ptr b4 0) ∧ g 5 = (tkP (subv vb1 1 (bq.length : Int)) ((bq.drop (1 : Int).toNat).take (((bq.length : Int) : Int).toNat - (1 : Int).toNat)) 2) ∧ g 6 = (tkR (tkR (subv vb1 1 (bq.length : Int)) ((bq.drop (1 : Int).toNat).take (((bq.length : Int) : Int).toNat - (1 : Int).toNat)) 2) (bq.drop (3 + kN bq)) 4) ∧ g 7 = (bl true) ∧ g 10 = (bl (decide (0 < (bq.length : Int)))) ∧ g 23 = (bl true) ∧ True) ⟨s0, s2, s4, s5, rfl, rfl, s10, rfl, trivial⟩ ?_
         rintro fr20 ⟨s0, s2, s4, s5, s6, s7, s10, s23, _⟩
         refine cw_seq (sR ?_)
         refine rM rfl s7 <| rw_q (v := (bl false)) rfl (ev_not (b := true) rfl) <| rw_q rfl (ev_move (v := (bl false)) rfl) <| rw_gyq (s := 40) rfl rfl rfl rfl (ev_move s0) <| rw_gyq (s := 40) rfl rfl rfl rfl (ev_indexAddr_rdv (i := 0) (Rd.ofRest hvb hm19) uT23 ti5 rfl rfl oM sL) <| rw_gyq (s := 40) rfl rfl rfl rfl (ev_load_rdD (l := bq) (i := 0) (dflt := 0) (Rd.ofRest hvb hm19) uT5 rfl oM sL rfl) ?_
         refine rw_gyq (s := 40) rfl rfl rfl rfl (ev_u8_gtr (b := 1#8) rfl rfl) <| rw_q rfl (ev_pick_f rfl rfl) <| rw_q rfl (ev_move (v := (bl (decide ((1#8).toNat < (bq.getD 0 0).toNat)))) rfl) ?_
         rcases Bool.eq_false_or_eq_true (decide ((1#8).toNat < (bq.getD 0 0).toNat)) with hb21 | hb21
         · -- true
           have hb21p := of_decide_eq_true hb21
           refine rw_gn (s := 46) rfl rfl hb21 rfl <| rw_gn (s := 46) rfl rfl hb21 rfl <| rw_gn (s := 46) rfl rfl hb21 rfl <| rw_q rfl (ev_pick_tk rfl hb21 rfl) <| rN <| cw_cond_t rfl (by decide) ?_
           refine sR <| rw_q rfl (ev_assign (v := (Value.slice none 0 0)) rfl) <| rw_q rfl (ev_assign (v := (i64 3)) rfl) ?_
           refine rN (cw_ret ?_)
           refine kThen_ret (kBlk_ret (kThen_ret (kBlk_ret ?_)))
           refine fnPost_ret [(Value.slice none 0 0), (i64 3)] ⟨rfl, rfl, trivial⟩ ?_
           have hm22 := Mem.drop ([(b4, .cells #[(Value.string (strOf ((bq.drop 3).take (kN bq)))), rq16, (bl ((bq.getD 0 0) == 1#8))] 79 (0, 0))]) _ hm19
           have hm23 := Mem.drop Hsq16 _ hm22
           have hm24 := Mem.drop Ho _ hm23
           have hm25 := Mem.drop He _ hm24
           have hno := dec_none (dec_no hl0 ((by rw [ho3, decide_eq_false (by have h := of_decide_eq_true hb21; have h1 : (1#8).toNat = 1 := rfl; omega)]; rfl)) hD)
           rw [hno.1, hno.2]
           exact ⟨_, [], [], [], rfl, rfl, GrowK.none encP 3 79, ElP.nil, by simpa using hm25⟩
         · -- false
           have hb21p := of_decide_eq_false hb21
           refine rw_gyq (s := 46) rfl rfl hb21 rfl (ev_loadW uT79 rfl ti79 s4 hm19.h0 (by kernel_rfl)) <| rw_gy (s := 46) rfl rfl hb21 rfl (opR_call Try.func58 bd58 nm58 (args1 rfl) (c_sright (strOf ((bq.drop 3).take (kN bq))) rq16 ((bq.drop (7 + kN bq)).take (vN_ bq)) ((bq.getD 0 0) == 1#8) _ (grq16.rd (Mem.pick [_] Hsq16 _ hm19)) sL sL)) ?_
           rintro _ w26 ⟨rfl, _ew26⟩
           have hm26 := hm19.ext _ew26
           refine rw_gyq (s := 46) rfl rfl hb21 rfl (ev_not rfl) <| rw_q rfl (ev_pick_fk rfl hb21 rfl) <| rN ?_
           refine cw_cond rfl (fun hc28 => ?_) (fun hc28 => ?_)
           · -- true
             have hc28n : (rightB (strOf ((bq.drop 3).take (kN bq))).size ((bq.drop (7 + kN bq)).take (vN_ bq)).length ((bq.getD 0 0) == 1#8)) = false := by simpa using hc28
             refine sR <| rw_q rfl (ev_assign (v := (Value.slice none 0 0)) rfl) <| rw_q rfl (ev_assign (v := (i64 3)) rfl) ?_
             refine rN (cw_ret ?_)
             refine kThen_ret (kBlk_ret (kThen_ret (kBlk_ret ?_)))
             refine fnPost_ret [(Value.slice none 0 0), (i64 3)] ⟨rfl, rfl, trivial⟩ ?_
             have hm29 := Mem.drop ([(b4, .cells #[(Value.string (strOf ((bq.drop 3).take (kN bq)))), rq16, (bl ((bq.getD 0 0) == 1#8))] 79 (0, 0))]) _ hm26
             have hm30 := Mem.drop Hsq16 _ hm29
             have hm31 := Mem.drop Ho _ hm30
             have hm32 := Mem.drop He _ hm31
             have hrb : rightB (kN bq) (vN_ bq) ((bq.getD 0 0) == 1#8) = false := by have h := hc28; rw [hks, hvl] at h; simpa using h
             have hno := dec_none (dec_no hl0 ((by rw [ho3, hrb, Bool.and_false])) hD)
             rw [hno.1, hno.2]
             exact ⟨_, [], [], [], rfl, rfl, GrowK.none encP 3 79, ElP.nil, by simpa using hm32⟩
           · -- false
             have hc28n : (rightB (strOf ((bq.drop 3).take (kN bq))).size ((bq.drop (7 + kN bq)).take (vN_ bq)).length ((bq.getD 0 0) == 1#8)) = true := by simpa using hc28
             refine cw_skip (kThen_normal (cw_region ?_))
             refine rM rfl s2 <| rw_q (v := (Value.agg #[(Value.string (strOf ((bq.drop 3).take (kN bq)))), rq16, (bl ((bq.getD 0 0) == 1#8))])) rfl (ev_loadW uT79 rfl ti79 s4 hm26.h0 (by kernel_rfl)) <| rw_c rfl (or_buildSlice_k1 (cs := #[(Value.string (strOf ((bq.drop 3).take (kN bq)))), rq16, (bl ((bq.getD 0 0) == 1#8))]) hm26 uT55 ti79 rfl rfl rfl rfl) ?_
             rintro _ w33 ⟨b53, rfl, _ew33, hm33⟩
             have hm33 : Mem w33 (restOf w0) ([(b53, .cells #[(Value.string (strOf ((bq.drop 3).take (kN bq)))), rq16, (bl ((bq.getD 0 0) == 1#8))] 79 (0, 0)), (b4, .cells #[(Value.string (strOf ((bq.drop 3).take (kN bq)))), rq16, (bl ((bq.getD 0 0) == 1#8))] 79 (0, 0))] ++ (Hsq16 ++ (Ho ++ (He ++ ([]))))) := hm33
             refine rw_c rfl (or_appendK (enc := encP) (k := 3) (Hs := Ho) (H := [(b53, .cells #[(Value.string (strOf ((bq.drop 3).take (kN bq)))), rq16, (bl ((bq.getD 0 0) == 1#8))] 79 (0, 0)), (b4, .cells #[(Value.string (strOf ((bq.drop 3).take (kN bq)))), rq16, (bl ((bq.getD 0 0) == 1#8))] 79 (0, 0))] ++ (Hsq16 ++ (He ++ ([])))) (Mem.pick2 [_, _] Hsq16 Ho _ hm33) go rfl rfl (RdK.ofOne (enc := encP) (k := 3) (a := (PairT.mk (strOf ((bq.drop 3).take (kN bq))) (toSl rq16 ((bq.drop (7 + kN bq)).take (vN_ bq))) ((bq.getD 0 0) == 1#8))) hm33.h0 (by show _ = #[_, slv (toSl rq16 ((bq.drop (7 + kN bq)).take (vN_ bq))), _]; rw [Grow.toSl ((bq.drop (7 + kN bq)).take (vN_ bq)) grq16]) rfl) uT55 uT55 ti79 rfl rfl (fun a _ => encP_one a) sL sL) ?_
             rintro sv34 w34 ⟨Hs34, hm34, g34⟩
             replace g34 : GrowK encP 3 79 sv34 (ps ++ ([(PairT.mk (strOf ((bq.drop 3).take (kN bq))) (toSl rq16 ((bq.drop (7 + kN bq)).take (vN_ bq))) ((bq.getD 0 0) == 1#8))])) Hs34 := g34
             refine rM rfl s6 <| rA rfl (v := sv34) rfl <| rA rfl rfl ?_
             refine rw_nil (kBlk_normal (kThen_normal ?_))
             have hrb : rightB (kN bq) (vN_ bq) ((bq.getD 0 0) == 1#8) = true := by have h := hc28; rw [hks, hvl] at h; simpa using h
             have hok : oneOk bq = true := by rw [ho3, hrb, Bool.and_true]; exact decide_eq_true (by have h := of_decide_eq_false hb21; have h1 : (1#8).toNat = 1 := rfl; omega)
             have hdm := dec_more hl0 hf hok hD
             have hone : oneOf (PairT.mk (strOf ((bq.drop 3).take (kN bq))) (toSl rq16 ((bq.drop (7 + kN bq)).take (vN_ bq))) ((bq.getD 0 0) == 1#8)) = oneP bq := by unfold oneOf oneP; simp only [bytesL_strOf, toSl_snd]
             have hgc := grq16
             have hm35 := Mem.drop ([(b53, .cells #[(Value.string (strOf ((bq.drop 3).take (kN bq)))), rq16, (bl ((bq.getD 0 0) == 1#8))] 79 (0, 0))]) _ (Mem.pick Hs34 [_] _ hm34)
             have hm36 := Mem.drop ([(b4, .cells #[(Value.string (strOf ((bq.drop 3).take (kN bq)))), rq16, (bl ((bq.getD 0 0) == 1#8))] 79 (0, 0))]) _ (Mem.pick Hs34 [_] _ hm35)
             exact ⟨⟨(f - 1), (oneR bq), (tkR (tkR (subv vb1 1 (bq.length : Int)) ((bq.drop (1 : Int).toNat).take (((bq.length : Int) : Int).toNat - (1 : Int).toNat)) 2) (bq.drop (3 + kN bq)) 4), sv34, (ps ++ ([(PairT.mk (strOf ((bq.drop 3).take (kN bq))) (toSl rq16 ((bq.drop (7 + kN bq)).take (vN_ bq))) ((bq.getD 0 0) == 1#8))])), Hs34, (Hsq16 ++ He), hdm.1, oM, (Rd.cast (l' := (oneR bq)) (rd_tkR (Rd.cast (l' := (bq.drop (3 + kN bq))) (rd_tkR (Rd.cast (l' := (bq.drop (1 : Int).toNat).take (((bq.length : Int) : Int).toNat - (1 : Int).toNat)) (Rd.sub (Rd.ofRest hvb hm0) oM sL sL) rfl) (by rw [drop_1 hl0]; exact hb6)) (by rw [drop_1 hl0]; exact tk_kr)) hb10) tk_vr), (by rw [List.map_append, List.map_cons, List.map_nil, hone]; exact hdm.2), (by rw [List.length_append, List.length_singleton]; have := oneR_lt hl0; omega), g34, (ElP.snoc hel hgc), rfl, rfl, (by
               have hT := hm36
               try simp only [List.append_assoc, List.cons_append, List.nil_append, List.append_nil] at hT ⊢
               exact hT)⟩, (sllenN_lt rfl z0 (Rd.cast (l' := (oneR bq)) (rd_tkR (Rd.cast (l' := (bq.drop (3 + kN bq))) (rd_tkR (Rd.cast (l' := (bq.drop (1 : Int).toNat).take (((bq.length : Int) : Int).toNat - (1 : Int).toNat)) (Rd.sub (Rd.ofRest hvb hm0) oM sL sL) rfl) (by rw [drop_1 hl0]; exact hb6)) (by rw [drop_1 hl0]; exact tk_kr)) hb10) tk_vr) hvb (oneR_lt hl0))⟩
       · -- false
         refine cw_region <| rM rfl s6 <| rw_c rfl (opR_call Try.func61 bd61 nm61 (args2 rfl rfl) (c_stake0 (tkR (subv vb1 1 (bq.length : Int)) ((bq.drop (1 : Int).toNat).take (((bq.length : Int) : Int).toNat - (1 : Int).toNat)) 2) (bq.drop (3 + kN bq)) 4 _ (Rd.cast (l' := (bq.drop (3 + kN bq))) (rd_tkR (Rd.cast (l' := (bq.drop (1 : Int).toNat).take (((bq.length : Int) : Int).toNat - (1 : Int).toNat)) (Rd.sub (Rd.ofRest hvb hm7) oM sL sL) rfl) (by rw [drop_1 hl0]; exact hb6)) (by rw [drop_1 hl0]; exact tk_kr)) sL sL hb10)) ?_
         rintro _ w37 ⟨rfl, _ew37⟩
         have hm37 := hm7.ext _ew37
         refine rw_q rfl (ev_move (v := (Value.tuple #[(Value.slice none 0 0), (Value.slice none 0 0), (bl false)])) rfl) <| rw_q (v := (Value.slice none 0 0)) rfl (ev_extract rfl rfl) <| rw_q (v := (Value.slice none 0 0)) rfl (ev_extract rfl rfl) <| rw_q (v := (bl false)) rfl (ev_extract rfl rfl) <| rw_q rfl (ev_fa (r := 1) uT79 rfl (by first | rfl | omega) ti23 rfl s4) <| rw_n (or_store1 ti23 rfl rfl rfl hm37.h0 (by simp) (.inl (Nat.zero_le _))) ?_
         rintro _ w39 uq39
         have hm39 : Mem w39 (restOf w0) ([(b4, .cells #[(Value.string ByteArray.empty), (Value.slice none 0 0), (bl ((bq.getD 0 0) == 1#8))] 79 (0, 0))] ++ (Ho ++ (He ++ ([])))) := hm37.upd0 uq39
         refine rw_q rfl (ev_assign (v := (Value.slice none 0 0)) rfl) <| rw_q rfl (ev_assign (v := (bl false)) rfl) ?_
         refine rN (cw_seq ?_)
         refine cw_draw [(0, false), (1, false), (2, false), (3, false), (5, false), (4, true)] 6 (by kernel_rfl) <| dM rfl rfl s5 <| dw_q rfl rfl (fun _ _hx => ev_b2s (l := ((bq.drop 3).take (kN bq))) (Rd.cast (l' := ((bq.drop 3).take (kN bq))) (rd_tkP (Rd.cast (l' := (bq.drop (1 : Int).toNat).take (((bq.length : Int) : Int).toNat - (1 : Int).toNat)) (Rd.sub (Rd.ofRest hvb (hm39.ext _hx)) oM sL sL) rfl) (by rw [drop_1 hl0]; exact hb6)) (by rw [drop_1 hl0]; exact tk_k)) uT23 uT5 uT9 rfl) <| dw_q rfl rfl (fun _ _hx => ev_fa (r := 1) uT79 rfl (by first | rfl | omega) ti23 rfl s4) <| dw_q (v := (Value.slice none 0 0)) rfl rfl (fun _ _hx => ev_load1 uT23 rfl rfl (hm39.ext _hx).h0 rfl) <| dw_q rfl rfl (fun _ _hx => ev_fa (r := 0) uT79 rfl (by first | rfl | omega) ti9 rfl s4) ?_
         refine dw_c rfl rfl (fun w40 _ew40 => ?_)
         have hm40 := hm39.ext _ew40
         refine OpR.mono (opR_call Try.func54 bd54 nm54 (args1 rfl) (c_clone (Value.slice none 0 0) ([]) _ (Rd.nil _ _) sL)) ?_
         rintro rq42 w41 ⟨Hsq42, grq42, k_w41⟩
         refine ⟨k_w41.toExt, ?_⟩
         have hm41 : Mem w41 (restOf w0) (Hsq42 ++ ([(b4, .cells #[(Value.string ByteArray.empty), (Value.slice none 0 0), (bl ((bq.getD 0 0) == 1#8))] 79 (0, 0))] ++ (Ho ++ (He ++ ([]))))) := Mem.new (H := [(b4, .cells #[(Value.string ByteArray.empty), (Value.slice none 0 0), (bl ((bq.getD 0 0) == 1#8))] 79 (0, 0))] ++ (Ho ++ (He ++ ([])))) (H' := Hsq42) hm40 k_w41
         refine dw_nil (fun w43 _ew43 => ?_)
         have hm43 := hm41.ext _ew43
         refine rw_n (or_store1 ti9 rfl rfl rfl ((Mem.pick Hsq42 [_] _ hm43)).h0 (by simp) (.inl (Nat.zero_le _))) ?_
         rintro _ w44 uq44
         have hm44 : Mem w44 (restOf w0) ([(b4, .cells #[(Value.string (strOf ((bq.drop 3).take (kN bq)))), (Value.slice none 0 0), (bl ((bq.getD 0 0) == 1#8))] 79 (0, 0))] ++ (Hsq42 ++ (Ho ++ (He ++ ([]))))) := Mem.upd0 (Mem.pick Hsq42 [_] _ hm43) uq44
         refine rw_q rfl (ev_fa (r := 1) uT79 rfl (by first | rfl | omega) ti23 rfl s4) <| rw_n (or_store1 ti23 rfl rfl grq42.one hm44.h0 (by simp) (.inl (Nat.zero_le _))) ?_
         rintro _ w45 uq45
         have hm45 : Mem w45 (restOf w0) ([(b4, .cells #[(Value.string (strOf ((bq.drop 3).take (kN bq)))), rq42, (bl ((bq.getD 0 0) == 1#8))] 79 (0, 0))] ++ (Hsq42 ++ (Ho ++ (He ++ ([]))))) := hm44.upd0 uq45
         refine rN ?_
         refine CW.abs (fun g => g 0 = vb1 ∧ g 2 = vo ∧ g 4 = (ptr b4 0) ∧ g 5 = (tkP (subv vb1 1 (bq.length : Int)) ((bq.drop (1 : Int).toNat).take (((bq.length : Int) : Int).toNat - (1 : Int).toNat)) 2) ∧ g 6 = (Value.slice none 0 0) ∧ g 7 = (bl false) ∧ g 10 = (bl (decide (0 < (bq.length : Int)))) ∧ g 23 = (bl true) ∧ True) ⟨s0, s2, s4, s5, rfl, rfl, s10, rfl, trivial⟩ ?_
         rintro fr46 ⟨s0, s2, s4, s5, s6, s7, s10, s23, _⟩
         refine cw_seq (sR ?_)
         refine rM rfl s7 <| rw_q (v := (bl true)) rfl (ev_not (b := false) rfl) <| rw_q rfl (ev_move (v := (bl true)) rfl) <| rw_gn (s := 40) rfl rfl rfl rfl <| rw_gn (s := 40) rfl rfl rfl rfl <| rw_gn (s := 40) rfl rfl rfl rfl ?_
         refine rw_gn (s := 40) rfl rfl rfl rfl <| rw_q rfl (ev_pick_t rfl rfl) <| rw_q rfl (ev_move (v := (bl true)) rfl) <| rw_gn (s := 46) rfl rfl rfl rfl <| rw_gn (s := 46) rfl rfl rfl rfl <| rw_gn (s := 46) rfl rfl rfl rfl ?_
         refine rw_q rfl (ev_pick_t rfl rfl) <| rN <| cw_cond_t rfl (by decide) <| sR <| rw_q rfl (ev_assign (v := (Value.slice none 0 0)) rfl) <| rw_q rfl (ev_assign (v := (i64 3)) rfl) ?_
         refine rN (cw_ret ?_)
         refine kThen_ret (kBlk_ret (kThen_ret (kBlk_ret ?_)))
         refine fnPost_ret [(Value.slice none 0 0), (i64 3)] ⟨rfl, rfl, trivial⟩ ?_
         have hm47 := Mem.drop ([(b4, .cells #[(Value.string (strOf ((bq.drop 3).take (kN bq)))), rq42, (bl ((bq.getD 0 0) == 1#8))] 79 (0, 0))]) _ hm45
         have hm48 := Mem.drop Hsq42 _ hm47
         have hm49 := Mem.drop Ho _ hm48
         have hm50 := Mem.drop He _ hm49
         have hno := dec_none (dec_no hl0 (ok_2 hb10) hD)
         rw [hno.1, hno.2]
         exact ⟨_, [], [], [], rfl, rfl, GrowK.none encP 3 79, ElP.nil, by simpa using hm50⟩
     · -- false
       refine cw_region <| rM rfl s0 <| rw_q rfl (ev_slice_rd (i := 1) (j := (bq.length : Int)) (Rd.ofRest hvb hm5) uT23 ti5 rfl (optI_some (k := .i64) (i := 1) rfl) (optI_none _ _) oM sL sL) <| rw_c rfl (opR_call Try.func61 bd61 nm61 (args2 rfl rfl) (c_stake0 (subv vb1 1 (bq.length : Int)) ((bq.drop (1 : Int).toNat).take (((bq.length : Int) : Int).toNat - (1 : Int).toNat)) 2 _ (Rd.cast (l' := (bq.drop (1 : Int).toNat).take (((bq.length : Int) : Int).toNat - (1 : Int).toNat)) (Rd.sub (Rd.ofRest hvb hm5) oM sL sL) rfl) sL sL (by rw [drop_1 hl0]; exact hb6))) ?_
       rintro _ w51 ⟨rfl, _ew51⟩
       have hm51 := hm5.ext _ew51
       refine rw_q rfl (ev_move (v := (Value.tuple #[(Value.slice none 0 0), (Value.slice none 0 0), (bl false)])) rfl) <| rw_q (v := (Value.slice none 0 0)) rfl (ev_extract rfl rfl) <| rw_q (v := (Value.slice none 0 0)) rfl (ev_extract rfl rfl) <| rw_q (v := (bl false)) rfl (ev_extract rfl rfl) <| rw_q rfl (ev_assign (v := (Value.slice none 0 0)) rfl) <| rw_q rfl (ev_assign (v := (Value.slice none 0 0)) rfl) ?_
       refine rw_q rfl (ev_assign (v := (bl false)) rfl) <| rN ?_
       refine CW.abs (fun g => g 0 = vb1 ∧ g 2 = vo ∧ g 4 = (ptr b4 0) ∧ g 5 = (Value.slice none 0 0) ∧ g 6 = (Value.slice none 0 0) ∧ g 7 = (bl false) ∧ g 10 = (bl (decide (0 < (bq.length : Int)))) ∧ True) ⟨s0, s2, rfl, rfl, rfl, rfl, rfl, trivial⟩ ?_
       rintro fr53 ⟨s0, s2, s4, s5, s6, s7, s10, _⟩
       refine cw_seq (sR ?_)
       refine rM rfl s7 <| rN <| cw_cond_f rfl (by decide) ?_
       refine cw_skip (kThen_normal (cw_seq ?_))
       refine cw_draw [(0, false), (1, false), (2, false), (3, false), (5, false), (4, true)] 6 (by kernel_rfl) <| dM rfl rfl s5 <| dw_q rfl rfl (fun _ _hx => ev_b2s (l := []) (Rd.nil _ _) uT23 uT5 uT9 rfl) <| dw_q rfl rfl (fun _ _hx => ev_fa (r := 1) uT79 rfl (by first | rfl | omega) ti23 rfl s4) <| dw_q (v := (Value.slice none 0 0)) rfl rfl (fun _ _hx => ev_load1 uT23 rfl rfl (hm51.ext _hx).h0 rfl) <| dw_q rfl rfl (fun _ _hx => ev_fa (r := 0) uT79 rfl (by first | rfl | omega) ti9 rfl s4) ?_
       refine dw_c rfl rfl (fun w54 _ew54 => ?_)
       have hm54 := hm51.ext _ew54
       refine OpR.mono (opR_call Try.func54 bd54 nm54 (args1 rfl) (c_clone (Value.slice none 0 0) ([]) _ (Rd.nil _ _) sL)) ?_
       rintro rq56 w55 ⟨Hsq56, grq56, k_w55⟩
       refine ⟨k_w55.toExt, ?_⟩
       have hm55 : Mem w55 (restOf w0) (Hsq56 ++ ([(b4, .cells #[(Value.string ByteArray.empty), (Value.slice none 0 0), (bl ((bq.getD 0 0) == 1#8))] 79 (0, 0))] ++ (Ho ++ (He ++ ([]))))) := Mem.new (H := [(b4, .cells #[(Value.string ByteArray.empty), (Value.slice none 0 0), (bl ((bq.getD 0 0) == 1#8))] 79 (0, 0))] ++ (Ho ++ (He ++ ([])))) (H' := Hsq56) hm54 k_w55
       refine dw_nil (fun w57 _ew57 => ?_)
       have hm57 := hm55.ext _ew57
       refine rw_n (or_store1 ti9 rfl rfl rfl ((Mem.pick Hsq56 [_] _ hm57)).h0 (by simp) (.inl (Nat.zero_le _))) ?_
       rintro _ w58 uq58
       have hm58 : Mem w58 (restOf w0) ([(b4, .cells #[(Value.string (strOf [])), (Value.slice none 0 0), (bl ((bq.getD 0 0) == 1#8))] 79 (0, 0))] ++ (Hsq56 ++ (Ho ++ (He ++ ([]))))) := Mem.upd0 (Mem.pick Hsq56 [_] _ hm57) uq58
       refine rw_q rfl (ev_fa (r := 1) uT79 rfl (by first | rfl | omega) ti23 rfl s4) <| rw_n (or_store1 ti23 rfl rfl grq56.one hm58.h0 (by simp) (.inl (Nat.zero_le _))) ?_
       rintro _ w59 uq59
       have hm59 : Mem w59 (restOf w0) ([(b4, .cells #[(Value.string (strOf [])), rq56, (bl ((bq.getD 0 0) == 1#8))] 79 (0, 0))] ++ (Hsq56 ++ (Ho ++ (He ++ ([]))))) := hm58.upd0 uq59
       refine rN (cw_seq (sR ?_))
       refine rM rfl s7 <| rw_q (v := (bl true)) rfl (ev_not (b := false) rfl) <| rw_q rfl (ev_move (v := (bl true)) rfl) <| rw_gn (s := 40) rfl rfl rfl rfl <| rw_gn (s := 40) rfl rfl rfl rfl <| rw_gn (s := 40) rfl rfl rfl rfl ?_
       refine rw_gn (s := 40) rfl rfl rfl rfl <| rw_q rfl (ev_pick_t rfl rfl) <| rw_q rfl (ev_move (v := (bl true)) rfl) <| rw_gn (s := 46) rfl rfl rfl rfl <| rw_gn (s := 46) rfl rfl rfl rfl <| rw_gn (s := 46) rfl rfl rfl rfl ?_
       refine rw_q rfl (ev_pick_t rfl rfl) <| rN ?_
       refine CW.abs (fun g => g 0 = vb1 ∧ g 2 = vo ∧ g 4 = (ptr b4 0) ∧ g 5 = (Value.slice none 0 0) ∧ g 6 = (Value.slice none 0 0) ∧ g 7 = (bl false) ∧ g 10 = (bl (decide (0 < (bq.length : Int)))) ∧ g 23 = (bl false) ∧ g 50 = (bl true) ∧ True) ⟨s0, s2, s4, s5, s6, s7, s10, rfl, rfl, trivial⟩ ?_
       rintro fr60 ⟨s0, s2, s4, s5, s6, s7, s10, s23, s50, _⟩
       refine cw_cond_t s50 (by decide) <| sR <| rw_q rfl (ev_assign (v := (Value.slice none 0 0)) rfl) <| rw_q rfl (ev_assign (v := (i64 3)) rfl) ?_
       refine rN (cw_ret ?_)
       refine kThen_ret (kBlk_ret (kThen_ret (kBlk_ret ?_)))
       refine fnPost_ret [(Value.slice none 0 0), (i64 3)] ⟨rfl, rfl, trivial⟩ ?_
       have hm61 := Mem.drop ([(b4, .cells #[(Value.string (strOf [])), rq56, (bl ((bq.getD 0 0) == 1#8))] 79 (0, 0))]) _ hm59
       have hm62 := Mem.drop Hsq56 _ hm61
       have hm63 := Mem.drop Ho _ hm62
       have hm64 := Mem.drop He _ hm63
       have hno := dec_none (dec_no hl0 (ok_1 hb6) hD)
       rw [hno.1, hno.2]
       exact ⟨_, [], [], [], rfl, rfl, GrowK.none encP 3 79, ElP.nil, by simpa using hm64⟩
   · -- false
     have hc3p := of_decide_eq_false hc3
     refine cw_exit ?_
     refine kThen_exit (kThen_exit (kBlk_hit ?_))
     refine sR <| rM rfl s2 <| rA rfl (v := vo) rfl <| rw_q rfl (ev_assign (v := (i64 0)) rfl) ?_
     refine rN (cw_ret ?_)
     refine fnPost_ret [vo, (i64 0)] ⟨rfl, rfl, trivial⟩ ?_
     have hye := dec_yes (dec_end oM hD)
     rw [hye.1, hye.2]
     exact ⟨vo, ps, Ho, He, rfl, rfl, go, hel, by simpa using hm2⟩


end Go.Proofs.Ytfbnhoolkajebaa
