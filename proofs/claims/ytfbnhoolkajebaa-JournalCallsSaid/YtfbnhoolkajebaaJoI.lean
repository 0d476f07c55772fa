/- A disk with any blocks; calls; a journal opened as the document says. Conditions: none beyond those that each theorem states. -/
import Derived.Test.YtfbnhoolkajebaaJoH
namespace Go.Proofs.Ytfbnhoolkajebaa
set_option linter.unusedVariables false
set_option linter.unusedSimpArgs false
/-! ### A disk with any blocks; calls -/
def rawK (ls B : List (List (BitVec 8))) : Nat → List WriteT
  | 0 => []
  | k + 1 => pushB ls (rawK ls B k) (k : Int) (B.getD k [])
theorem rawK_len {ls B : List (List (BitVec 8))} : ∀ k, (rawK ls B k).length ≤ k
  | 0 => Nat.le_refl _
  | k + 1 => by
    have := rawK_len (ls := ls) (B := B) k
    show (pushB _ _ _ _).length ≤ _
    unfold pushB; split
    · rw [List.length_append, List.length_singleton]; omega
    · omega
theorem okP_raw {ls B : List (List (BitVec 8))} : ∀ k, okP (rawK ls B k) (ls.length : Int)
  | 0 => okP_nil
  | k + 1 => okP_push (okP_raw k)
theorem rawK_b {ls B : List (List (BitVec 8))} (hB : ∀ x ∈ B, x.length = 64) : ∀ k, k ≤ B.length → ∀ w ∈ rawK ls B k, w.b.length = 64
  | 0, _, w, hw => by cases hw
  | k + 1, hk, w, hw => by
    have hw : w ∈ pushB ls (rawK ls B k) (k : Int) (B.getD k []) := hw
    unfold pushB at hw
    split at hw
    · rcases List.mem_append.1 hw with hw | hw
      · exact rawK_b hB k oM w hw
      · obtain rfl := List.mem_singleton.1 hw
        exact hB _ (getD_mem oM)
    · exact rawK_b hB k oM w hw
theorem raw_sync {ls B : List (List (BitVec 8))} (hl : ls.length = B.length) : ∀ k, k ≤ B.length → ∀ j, (syncF ls (rawK ls B k)).getD j [] = if j < k then B.getD j [] else ls.getD j []
  | 0, _, j => by rw [if_neg oM]; rfl
  | k + 1, h, j => by
    have ih := raw_sync hl k oM j
    have hin : inB ls (k : Int) = true := inB_of oM oM
    have e : rawK ls B (k + 1) = rawK ls B k ++ [⟨(k : Int), B.getD k []⟩] := by show pushB _ _ _ _ = _; unfold pushB; rw [if_pos hin]
    have e2 : syncF ls (rawK ls B (k + 1)) = (syncF ls (rawK ls B k)).set (k : Int).toNat (B.getD k []) := by rw [e, syncF_app]; rfl
    have e3 : ((k : Int)).toNat = k := by omega
    rw [e2, e3, getD_set' (by rw [syncF_len]; omega), ih]
    by_cases hj : j = k
    · subst hj; rw [if_pos rfl, if_pos oM]
    · rw [if_neg hj]
      by_cases c : j < k
      · rw [if_pos c, if_pos oM]
      · rw [if_neg c, if_neg oM]
theorem raw_all {ls B : List (List (BitVec 8))} (hls : ∀ x ∈ ls, x.length = 64) (hB : ∀ x ∈ B, x.length = 64) (hl : ls.length = B.length) {k : Nat} (hk : k = B.length) : crashB ls (rawK ls B k) [1#8] = B := by
  subst hk
  rw [sync_eq hls (rawK_b hB _ (Nat.le_refl _))]
  apply List.ext_getElem
  · rw [syncF_len, hl]
  intro j h1 h2
  rw [el_getD (d := []) h1, el_getD (d := []) h2, raw_sync hl _ (Nat.le_refl _), if_pos h2]
theorem blank_len : ∀ {n : Nat}, ∀ x ∈ blank n, x.length = 64 := fun x hx => by obtain rfl := List.eq_of_mem_replicate hx; simp
structure JCallT where
  what_ : Int
  n_ : Int
  b : SlT
def encJ (c : JCallT) : List Value := ([[i64 c.what_], [i64 c.n_], [slv c.b]] : List (List Value)).flatten
def jcall0 : JCallT := ⟨0, 0, sl0⟩
section
variable {P : Program} {t : TypeId} {f0 f1 f2 : Field} {k0 k1 k2 n : Nat} {C0 C1 C2 : World → List Value → Prop}
theorem opens_sx3 (hu : P.underlying t = some (.struct #[f0, f1, f2])) (hct : P.cellsOf t = n) (hn : n = k0 + (k1 + k2)) (o : f0.offset = 0 ∧ f1.offset = k0 ∧ f2.offset = k0 + k1) (c : P.cellsOf f0.type = k0 ∧ P.cellsOf f1.type = k1 ∧ P.cellsOf f2.type = k2)
    (h0 : Opens P f0.type C0) (h1 : Opens P f1.type C1) (h2 : Opens P f2.type C2) :
    Opens P t (fun w cs => ∃ c0 c1 c2, cs = c0 ++ (c1 ++ c2) ∧ C0 w c0 ∧ C1 w c1 ∧ C2 w c2) := by
  refine ⟨fun H en w fuel cs x h => ?_⟩
  obtain ⟨xs, m, _, _, hl, hlen, hf⟩ := DataW.trod_struct hu h
  have g : ∀ (i : Nat) (f : Field) (C : World → List Value → Prop), #[f0, f1, f2][i]? = some f → i < 3 → Opens P f.type C → C w ((cs.drop f.offset).take (P.cellsOf f.type)) := by
    intro i f C hi hi5 hop
    have h5 := hf i f hi
    rw [List.getElem?_eq_getElem (by rw [hlen]; simpa using hi5)] at h5
    exact hop.is H en w m _ _ h5
  have q0 := g 0 f0 C0 rfl oM h0
  have q1 := g 1 f1 C1 rfl oM h1
  have q2 := g 2 f2 C2 rfl oM h2
  rw [o.1, c.1] at q0
  rw [o.2.1, c.2.1] at q1
  rw [o.2.2, c.2.2] at q2
  rw [hct, hn] at hl
  refine ⟨_, _, _, ?_, q0, q1, q2⟩
  have e2 : (cs.drop (k0 + k1)).take k2 = cs.drop (k0 + k1) := List.take_of_length_le (by rw [List.length_drop]; omega)
  have e1 : (cs.drop k0).take k1 ++ cs.drop (k0 + k1) = cs.drop k0 := by rw [← List.drop_drop (i := k1)]; exact List.take_append_drop _ _
  rw [e2, e1, List.drop_zero, List.take_append_drop]
end
theorem small_step {lc : List JCallT} {k : Nat} (h : ∀ i, i < k → (lc.getD i jcall0).b.2.length ≤ 2000) (hk : (lc.getD k jcall0).b.2.length ≤ 2000) : ∀ i, i < k + 1 → (lc.getD i jcall0).b.2.length ≤ 2000 := fun i hi => by
  rcases Nat.lt_succ_iff_lt_or_eq.1 hi with h1 | h1
  · exact h i h1
  · subst h1; exact hk
theorem old_fst {ls : List (List (BitVec 8))} {sec : Bool} {n : Int} {L : List (List (BitVec 8))} (h : oldB ls [] = (if sec = true then n else 0, L)) : (oldB ls []).1 = (if sec = true then n else 0) ∧ (oldB ls []).2 = L := by rw [h]; exact ⟨rfl, rfl⟩
theorem rdQ {α : Type} {l : List α} {d : α} {k : Nat} {m : Nat → Option Obj} (g : α → SlT) (h : ∀ a ∈ l, Rd m u8 (slv (g a)) (g a).2) (hk : k < l.length) : Rd m u8 (slv (g (l.getD k d))) (g (l.getD k d)).2 := h _ (getD_mem hk)
theorem rdA_mem {m : Nat → Option Obj} {v : Value} {l : List (List (BitVec 8))} (h : RdK m (encA u8) 64 v l) : ∀ x ∈ l, x.length = 64 := fun x hx => by simpa [encA] using h.len x hx
theorem growA_mem {E : TypeId} {v : Value} {l : List (List (BitVec 8))} {Hs : List (Nat × Obj)} (h : GrowK (encA u8) 64 E v l Hs) : ∀ x ∈ l, x.length = 64 := fun x hx => by simpa [encA] using h.1 x hx
theorem rawK_0 {ls B : List (List (BitVec 8))} : [] = rawK ls B 0 := rfl
theorem rawK_S {ls B : List (List (BitVec 8))} {k : Nat} : pushB ls (rawK ls B k) (k : Int) (B.getD k []) = rawK ls B (k + 1) := rfl
theorem layD_S {b : List (List (BitVec 8))} {fr : Nat} {g : BitVec 64} {L : List (List (BitVec 8))} {k n : Nat} {x : List (BitVec 8)} (hx : x = L.getD k []) (hn : n = blocksN x.length) : putD (layD b fr g L k) (fr + roomB (L.take k)) (blksD g (BitVec.ofInt 64 (k : Int)) x) n = layD b fr g L (k + 1) := by subst hx hn; rfl
theorem layD_0 {b : List (List (BitVec 8))} {fr : Nat} {g : BitVec 64} {L : List (List (BitVec 8))} : b = layD b fr g L 0 := rfl
theorem putD_0 {b xs : List (List (BitVec 8))} {at_ : Nat} : b = putD b at_ xs 0 := rfl
theorem putD_S {b xs : List (List (BitVec 8))} {at_ k : Nat} {p : Nat} (hp : p = at_ + k) : (putD b at_ xs k).set p (xs.getD k []) = putD b at_ xs (k + 1) := by subst hp; rfl
theorem old_el {ls : List (List (BitVec 8))} (hn : ls.length ≤ 1000) : ∀ b ∈ (oldB ls []).2, b.length ≤ 42000 := by
  have h1 := readH_I (ls := ls) (ps := []) (fr0 := 0) (sz := (ls.length : Int) / 2) oM
  have h2 := readH_I (ls := ls) (ps := []) (fr0 := (ls.length : Int) / 2) (sz := (ls.length : Int) / 2) oM
  have e1 := h1.el; have e2 := h2.el
  unfold oldB
  simp only
  split
  · split
    · exact nil_el
    · exact fun b hb => by have := e2 b hb; omega
  · split
    · exact nil_el
    · exact fun b hb => by have := e1 b hb; omega
attribute [local irreducible] crashB crashK pushB readB inB errB cutN seenW
attribute [local irreducible] markB putB getB getK partB placeF blkOf rawB writeK blocksN
attribute [local irreducible] mostK newB roomB
attribute [local irreducible] recB recF recN genF badB lastP dataB gOf rOf pOf nOf loopH readH
attribute [local irreducible] okP layK turnL turnP oldB
attribute [local irreducible] openD
attribute [local irreducible] okG okV GB natB fitsB
attribute [local irreducible] syncF
attribute [local irreducible] gY rY pY nY wholeY dY halfL halfR diskR topK maxI
attribute [local irreducible] putD blksD layD
attribute [local irreducible] placeI blksK
attribute [local irreducible] rawK

set_option maxHeartbeats 2000000 in
theorem c_great15 (vc : Value) (lc : List JCallT) (w0 : World)  (hrc : RdK (blks w0) encJ 3 vc lc) (hqc : ∀ a ∈ lc, Rd (blks w0) u8 (slv a.b) a.b.2) (hqe : ∀ a ∈ lc, a.b.2.length ≤ 9223372036854775807) (hlc : lc.length ≤ 9223372036854775807) : CallsR Try.prog 23 #[vc] w0 (fun r w1 => ∃ g : Bool, r = bl g ∧ (g = false → lc.length ≤ 60 ∧ ∀ i, i < lc.length → (lc.getD i jcall0).b.2.length ≤ 2000) ∧ Mem w1 (restOf w0) []) := by
 refine callsR_of_cw (args := [vc]) Try.func23 rfl Try.ntmps23 Try.results23 rfl ?_
 have hm0 : Mem w0 (restOf w0) [] := Mem.of_world w0
 refine sR <| rw_q rfl (ev_assign (v := (bl false)) rfl) ?_
 refine rN (cw_seq (sR ?_))
 refine rM rfl (v := vc) rfl <| rw_q (v := (i64 (lc.length : Int))) rfl (ev_len_rk (RdK.ofRest hrc hm0) uT41 rfl) <| rw_q rfl (ev_i64_gtr (b := 60) rfl rfl) <| rN ?_
 refine cw_cond rfl (fun hc1 => ?_) (fun hc1 => ?_)
 · -- true
   have hc1p := of_decide_eq_true hc1
   refine sR <| rw_q rfl (ev_assign (v := (bl true)) rfl) ?_
   refine rN (cw_ret (kThen_ret ?_))
   refine fnPost_ret [(bl true)] ⟨rfl, trivial⟩ ?_
   exact ⟨true, rfl, (fun h => by cases h), hm0⟩
 · -- false
   have hc1p := of_decide_eq_false hc1
   refine cw_skip (kThen_normal (cw_seq (sR ?_)))
   refine rM rfl (v := vc) rfl <| rw_q (v := (i64 (lc.length : Int))) rfl (ev_len_rk (RdK.ofRest hrc hm0) uT41 rfl) <| rw_q rfl (ev_move (v := (i64 0)) rfl) ?_
   refine rN (cw_block ?_)
   refine cw_loop (fun g wv => ∃ (k : Nat), (k ≤ lc.length) ∧ (∀ i, i < k → (lc.getD i jcall0).b.2.length ≤ 2000) ∧ g 0 = vc ∧ g 7 = (bl (decide (60 < (lc.length : Int)))) ∧ g 8 = vc ∧ g 9 = (i64 (lc.length : Int)) ∧ g 10 = (i64 (k : Int)) ∧ Mem wv (restOf w0) []) (fun g wv => ((lc.length : Int) - RowKit.intOf (g 10)).toNat) ?_ ?_
   · exact ⟨0, (Nat.zero_le _), (fun i hi => by omega), rfl, rfl, rfl, rfl, rfl, hm0⟩
   · rintro fr2 w3 ⟨k, hk, hsm, s0, s7, s8, s9, s10, hm3⟩
     have z10 := s10
     refine sR <| rw_q rfl (ev_i64_lss s10 s9) ?_
     refine rN (cw_seq ?_)
     refine cw_cond rfl (fun hc4 => ?_) (fun hc4 => ?_)
     · -- true
       have hc4p := of_decide_eq_true hc4
       have hqk := hqe _ (getD_mem (d := jcall0) (show k < lc.length by omega))
       refine cw_skip (kThen_normal (cw_seq (cw_block (sR ?_))))
       refine rw_q rfl (ev_indexAddr_rk (i := (k : Int)) (RdK.ofRest hrc hm3) uT41 ti47 s8 s10 oM sL) <| rw_q (v := (Value.agg (segs [[(i64 ((lc.getD k jcall0).what_))], [(i64 ((lc.getD k jcall0).n_))], [(slv (lc.getD k jcall0).b)]]))) rfl (ev_load_rkW (i := (k : Int)) (dflt := jcall0) (cs := (segs [[(i64 ((lc.getD k jcall0).what_))], [(i64 ((lc.getD k jcall0).n_))], [(slv (lc.getD k jcall0).b)]])) (RdK.ofRest hrc hm3) sL uT47 rfl ti47 rfl rfl rfl) <| rw_c rfl (or_allocX hm3 ti47) ?_
       rintro _ w5 ⟨b4, rfl, _ew5, hm5⟩
       refine rw_n (or_storeW_segs [[(i64 ((lc.getD k jcall0).what_))], [(i64 ((lc.getD k jcall0).n_))], [(slv (lc.getD k jcall0).b)]] ti47 rfl rfl (fl_cons (n := 1) (m := 2) (k := 3) rfl (fl_cons (n := 1) (m := 1) (k := 2) rfl (fl_cons (n := 1) (m := 0) (k := 1) rfl fl_nil rfl) rfl) rfl) (so_cons (one_cons (i64_one _) one_nil) (so_cons (one_cons (i64_one _) one_nil) (so_cons (one_cons rfl one_nil) so_nil))) hm5.h0 rfl rfl) ?_
       rintro _ w6 uq6
       have hm6 : Mem w6 (restOf w0) [(b4, .cells (segs [[(i64 ((lc.getD k jcall0).what_))], [(i64 ((lc.getD k jcall0).n_))], [(slv (lc.getD k jcall0).b)]]) 47 (0, 0))] := hm5.upd0 uq6
       refine rN (sR ?_)
       refine rw_q rfl (ev_fa (r := 2) uT47 rfl (by first | rfl | omega) ti23 rfl rfl) <| rw_q (v := (slv (lc.getD k jcall0).b)) rfl (ev_load_segv (v := (slv (lc.getD k jcall0).b)) [[(i64 ((lc.getD k jcall0).what_))], [(i64 ((lc.getD k jcall0).n_))]] [] uT23 rfl rfl hm6.h0 (fl_cons (n := 1) (m := 1) (k := 2) rfl (fl_cons (n := 1) (m := 0) (k := 1) rfl fl_nil rfl) rfl)) <| rw_q (v := (i64 (((lc.getD k jcall0).b.2).length : Int))) rfl (ev_len_rd (Rd.ofRest (rdQ JCallT.b hqc (k := k) sD) hm6) uT23 rfl) <| rw_q rfl (ev_i64_gtr (b := 2000) rfl rfl) <| rN ?_
       refine cw_cond rfl (fun hc7 => ?_) (fun hc7 => ?_)
       · -- true
         have hc7p := of_decide_eq_true hc7
         refine sR <| rw_q rfl (ev_assign (v := (bl true)) rfl) ?_
         refine rN (cw_ret ?_)
         refine kBlk_ret (kThen_ret (kBlk_ret ?_))
         refine fnPost_ret [(bl true)] ⟨rfl, trivial⟩ ?_
         have hm8 := Mem.drop ([(b4, .cells (segs [[(i64 ((lc.getD k jcall0).what_))], [(i64 ((lc.getD k jcall0).n_))], [(slv (lc.getD k jcall0).b)]]) 47 (0, 0))]) _ hm6
         exact ⟨true, rfl, (fun h => by cases h), hm8⟩
       · -- false
         have hc7p := of_decide_eq_false hc7
         refine cw_skip (kBlk_normal (cw_region ?_))
         refine rw_q rfl (ev_i64_add (b := 1) s10 rfl oM oM) <| rw_q rfl (ev_move (v := (i64 ((k : Int) + 1))) rfl) <| rN ?_
         have hm9 := Mem.drop ([(b4, .cells (segs [[(i64 ((lc.getD k jcall0).what_))], [(i64 ((lc.getD k jcall0).n_))], [(slv (lc.getD k jcall0).b)]]) 47 (0, 0))]) _ hm6
         exact ⟨⟨(k + 1), oM, (small_step hsm oM), s0, s7, s8, s9, rfl, hm9⟩, meas (rfl) z10 oM oM⟩
     · -- false
       have hc4p := of_decide_eq_false hc4
       refine cw_exit ?_
       refine kThen_exit (kThen_exit (kBlk_hit ?_))
       refine sR <| rw_q rfl (ev_assign (v := (bl false)) rfl) ?_
       refine rN (cw_ret ?_)
       refine fnPost_ret [(bl false)] ⟨rfl, trivial⟩ ?_
       exact ⟨false, rfl, fun _ => ⟨by omega, fun i hi => hsm i oM⟩, hm3⟩

set_option maxHeartbeats 2000000 in
theorem c_raw1 (vB : Value) (lB : List (List (BitVec 8))) (w0 : World)  (hb : RdK (blks w0) (encA u8) 64 vB lB) (hn : 1 ≤ lB.length ∧ lB.length ≤ 100) : CallsR Try.prog 22 #[vB] w0 (fun r w1 => ∃ bd vl Hl, r = ptr bd 0 ∧ GrowK (encA u8) 64 83 vl lB Hl ∧ Mem w1 (restOf w0) ([(bd, .cells #[vl, (Value.slice none 0 0)] 94 (0, 0))] ++ (Hl ++ ([])))) := by
 refine callsR_of_cw (args := [vB]) Try.func22 rfl Try.ntmps22 Try.results22 rfl ?_
 have hm0 : Mem w0 (restOf w0) [] := Mem.of_world w0
 refine sR <| rw_q rfl (ev_assign (v := (Value.pointer none)) rfl) ?_
 refine rN (cw_seq (sR ?_))
 refine rM rfl (v := vB) rfl <| rw_q (v := (i64 (lB.length : Int))) rfl (ev_len_rk (RdK.ofRest hb hm0) uT40 rfl) <| rw_q rfl (ev_i64_eql (b := 0) rfl rfl) <| rw_q rfl (ev_move (v := (bl ((lB.length : Int) == 0))) rfl) ?_
 have hd1 : ((lB.length : Int) == 0) = false := by rw [beq_eq_false_iff_ne]; omega
 refine rw_gyq (s := 10) rfl rfl hd1 rfl (ev_move (v := vB) rfl) <| rw_gyq (s := 10) rfl rfl hd1 rfl (ev_len_rk (RdK.ofRest hb hm0) uT40 rfl) <| rw_gyq (s := 10) rfl rfl hd1 rfl (ev_i64_gtr (b := 100) rfl rfl) <| rw_q rfl (ev_pick_fk rfl hd1 rfl) <| rN ?_
 have hd2 : (decide (100 < (lB.length : Int))) = false := decide_eq_false oM
 refine cw_cond_f rfl hd2 ?_
 refine cw_skip (kThen_normal (sR ?_))
 refine rM rfl (v := vB) rfl <| rw_q (v := (i64 (lB.length : Int))) rfl (ev_len_rk (RdK.ofRest hb hm0) uT40 rfl) <| rw_c rfl (opR_call Try.func13 bd13 nm13 (args1 rfl) (c_dnew (lB.length : Int) _ sL)) ?_
 rintro _ w3 ⟨bdq4, vlq4, Hlq4, rfl, glq4, k_w3⟩
 have hm3 : Mem w3 (restOf w0) ([(bdq4, .cells #[vlq4, (Value.slice none 0 0)] 94 (0, 0))] ++ (Hlq4 ++ ([]))) := (by
   have hT := Mem.new (H := []) (H' := _) hm0 k_w3
   try simp only [List.append_assoc, List.cons_append, List.nil_append, List.append_nil] at hT ⊢
   exact hT)
 have hbl0 : List.replicate (lB.length : Int).toNat (List.replicate 64 0) = blank lB.length := by simp
 obtain ⟨L0, hL0⟩ : ∃ q : List (List (BitVec 8)), q = (List.replicate (lB.length : Int).toNat (List.replicate 64 0)) := ⟨_, rfl⟩
 have hL0l : L0.length = lB.length := by rw [hL0, hbl0]; simp
 have gg5 : GrowK (encA u8) 64 83 vlq4 L0 Hlq4 := GrowK.cast glq4 (hL0.symm)
 rw [hbl0] at hL0
 refine rw_q rfl (ev_move (v := (Value.tuple #[(ptr bdq4 0), (i64 0)])) rfl) <| rw_q (v := (ptr bdq4 0)) rfl (ev_extract rfl rfl) <| rw_q (v := (i64 0)) rfl (ev_extract rfl rfl) <| rw_q rfl (ev_assign (v := (ptr bdq4 0)) rfl) <| rw_q rfl (ev_assign (v := (i64 0)) rfl) <| rN ?_
 refine CW.abs (fun g => g 0 = vB ∧ g 2 = (Value.pointer none) ∧ g 3 = (ptr bdq4 0) ∧ g 4 = (i64 0) ∧ g 14 = (bl (decide (100 < (lB.length : Int)))) ∧ True) ⟨rfl, rfl, rfl, rfl, rfl, trivial⟩ ?_
 rintro fr6 ⟨s0, s2, s3, s4, s14, _⟩
 refine cw_seq (sR ?_)
 refine rM rfl s4 <| rw_q rfl (ev_i64_neq (b := 0) rfl rfl) <| rw_q rfl (ev_move (v := (bl (0 != 0))) rfl) ?_
 have hd7 : (0 != 0) = false := told_ne rfl
 refine rw_gyq (s := 23) rfl rfl hd7 rfl (ev_move s3) <| rw_gyq (s := 23) rfl rfl hd7 rfl (ev_ptr_nil_eql uT25 rfl rfl) <| rw_q rfl (ev_pick_fk rfl hd7 rfl) <| rN <| cw_cond_f rfl (by decide) ?_
 refine cw_skip (kThen_normal (cw_seq (sR ?_)))
 refine rM rfl s0 <| rw_q (v := (i64 (lB.length : Int))) rfl (ev_len_rk (RdK.ofRest hb hm3) uT40 rfl) <| rw_q rfl (ev_move (v := (i64 0)) rfl) ?_
 refine rN (cw_block ?_)
 refine cw_loop (fun g wv => ∃ (k : Nat) (vk : Value) (Hk : List (Nat × Obj)), (k ≤ lB.length) ∧ (GrowK encW 65 104 vk (rawK L0 lB k) Hk) ∧ g 0 = vB ∧ g 2 = (Value.pointer none) ∧ g 3 = (ptr bdq4 0) ∧ g 4 = (i64 0) ∧ g 14 = (bl (decide (100 < (lB.length : Int)))) ∧ g 26 = (bl false) ∧ g 27 = vB ∧ g 28 = (i64 (lB.length : Int)) ∧ g 29 = (i64 (k : Int)) ∧ Mem wv (restOf w0) ([(bdq4, .cells #[vlq4, vk] 94 (0, 0))] ++ (Hlq4 ++ (Hk ++ ([]))))) (fun g wv => ((lB.length : Int) - RowKit.intOf (g 29)).toNat) ?_ ?_
 · exact ⟨0, (.slice none 0 0), [], (Nat.zero_le _), (GrowK.cast (GrowK.none encW 65 104) rawK_0), s0, s2, s3, s4, s14, rfl, rfl, rfl, rfl, (by
   have hT := hm3
   try simp only [List.append_assoc, List.cons_append, List.nil_append, List.append_nil] at hT ⊢
   exact hT)⟩
 · rintro fr8 w9 ⟨k, vk, Hk, hk, gk, s0, s2, s3, s4, s14, s26, s27, s28, s29, hm9⟩
   have z29 := s29
   refine sR <| rw_q rfl (ev_i64_lss s29 s28) ?_
   refine rN (cw_seq ?_)
   refine cw_cond rfl (fun hc10 => ?_) (fun hc10 => ?_)
   · -- true
     have hc10p := of_decide_eq_true hc10
     have hxk := encA_b hb (show k < lB.length by omega)
     have hrkl := rawK_len (ls := L0) (B := lB) k
     refine cw_skip (kThen_normal (cw_seq (cw_block (sR ?_))))
     refine rM rfl s29 <| rw_q rfl (ev_indexAddr_rk (i := (k : Int)) (RdK.ofRest hb hm9) uT40 ti83 s27 s29 oM sL) <| rw_q (v := (agg u8 (lB.getD k []))) rfl (ev_load_rka (i := (k : Int)) (RdK.ofRest hb hm9) sL uT83 ti83 rfl rfl) <| rw_c rfl (or_alloc_agg hm9 ti83) ?_
     rintro _ w11 ⟨b6, rfl, _ew11, hm11⟩
     refine rw_q rfl (ev_assign (v := (i64 (k : Int))) rfl) <| rw_n (or_store_agg (f := u8) (l := lB.getD k []) u8_one ti83 rfl rfl sL hm11.h0 (by rw [size_cl]; first | omega | (simp only [List.length_set, List.length_append, List.length_replicate, List.length_map, List.length_cons, List.length_nil]; omega) | (simp; done) | (simp; omega) | decide) rfl) ?_
     rintro _ w12 uq12
     have hm12 := hm11.upd0 uq12
     refine rN (cw_region ?_)
     refine rM rfl s3 <| rw_q rfl (ev_move (v := (i64 (k : Int))) rfl) <| rw_q (v := (agg u8 (lB.getD k []))) rfl (ev_loadA uT83 rfl ti83 rfl hm12.h0 (by rw [size_cl]; first | omega | (simp only [List.length_set, List.length_append, List.length_replicate, List.length_map, List.length_cons, List.length_nil]; omega) | (simp; done) | (simp; omega) | decide)) ?_
     have hF14 : Mem w12 (restOf w0) (([(bdq4, .cells #[vlq4, vk] 94 (0, 0))] ++ (Hlq4 ++ (Hk ++ ([])))) ++ ([(b6, .cells (cl u8 (lB.getD k [])) 83 (0, 0))])) := by
       have hT := (Mem.pick3 Hlq4 Hk [_] [_] _ (Mem.pick2 Hk [_, _] Hlq4 _ (Mem.pick2 [_, _] Hlq4 Hk _ hm12)))
       try simp only [List.append_assoc, List.cons_append, List.nil_append, List.append_nil] at hT ⊢
       exact hT
     refine rw_c rfl (opR_call Try.func45 bd45 nm45 (args3 rfl rfl rfl) (c_dwrite bdq4 vlq4 L0 Hlq4 vk (rawK L0 lB k) Hk (k : Int) (lB.getD k []) _ _ (Mem.give hF14) gg5 gk sL sL sL)) ?_
     rintro _ w13 ⟨vp2q15, Hp2q15, rfl, gp2q15, k_w13⟩
     have hm13 : Mem w13 (restOf w0) ([(bdq4, .cells #[vlq4, vp2q15] 94 (0, 0))] ++ (Hlq4 ++ (Hp2q15 ++ ([(b6, .cells (cl u8 (lB.getD k [])) 83 (0, 0))])))) := (by
       have hT := Mem.back hF14 k_w13
       try simp only [List.append_assoc, List.cons_append, List.nil_append, List.append_nil] at hT ⊢
       exact hT)
     refine rw_nil (kBlk_normal (cw_region ?_))
     refine rw_q rfl (ev_i64_add (b := 1) s29 rfl oM oM) <| rw_q rfl (ev_move (v := (i64 ((k : Int) + 1))) rfl) <| rN ?_
     have hm16 := Mem.drop ([(b6, .cells (cl u8 (lB.getD k [])) 83 (0, 0))]) _ (Mem.pick3 [_] Hlq4 Hp2q15 [_] _ hm13)
     exact ⟨⟨(k + 1), vp2q15, Hp2q15, oM, (GrowK.cast gp2q15 rawK_S), s0, s2, s3, s4, s14, s26, s27, s28, rfl, hm16⟩, meas (rfl) z29 oM oM⟩
   · -- false
     have hc10p := of_decide_eq_false hc10
     have hrkl := rawK_len (ls := L0) (B := lB) k
     refine cw_exit ?_
     refine kThen_exit (kThen_exit (kBlk_hit ?_))
     refine sR <| rM rfl s3 ?_
     have hF18 : Mem w9 (restOf w0) (([(bdq4, .cells #[vlq4, vk] 94 (0, 0))] ++ (Hlq4 ++ (Hk ++ ([])))) ++ ([])) := by
       have hT := (Mem.pick2 Hlq4 Hk [_] _ (Mem.pick2 Hk [_] Hlq4 _ (Mem.pick2 [_] Hlq4 Hk _ hm9)))
       try simp only [List.append_assoc, List.cons_append, List.nil_append, List.append_nil] at hT ⊢
       exact hT
     refine rw_c rfl (opR_call Try.func46 bd46 nm46 (args1 rfl) (c_dsync bdq4 vlq4 L0 Hlq4 vk (rawK L0 lB k) Hk _ _ (Mem.give hF18) gg5 gk (okP_hat (okP_raw k)) sL sL)) ?_
     rintro _ w17 ⟨Hl2q19, rfl, gl2q19, k_w17⟩
     have hm17 : Mem w17 (restOf w0) ([(bdq4, .cells #[vlq4, (Value.slice none 0 0)] 94 (0, 0))] ++ (Hl2q19 ++ ([]))) := (by
       have hT := Mem.back hF18 k_w17
       try simp only [List.append_assoc, List.cons_append, List.nil_append, List.append_nil] at hT ⊢
       exact hT)
     refine rN (sR ?_)
     refine rM rfl s3 <| rw_q rfl (ev_assign (v := (ptr bdq4 0)) rfl) ?_
     refine rN (cw_ret ?_)
     refine fnPost_ret [(ptr bdq4 0)] ⟨rfl, trivial⟩ ?_
     have hbe := raw_all (ls := L0) (B := lB) (by rw [hL0]; exact blank_len) (rdA_mem hb) hL0l (k := k) oM
     exact ⟨bdq4, vlq4, Hl2q19, rfl, GrowK.cast gl2q19 hbe, (by
       have hT := hm17
       try simp only [List.append_assoc, List.cons_append, List.nil_append, List.append_nil] at hT ⊢
       exact hT)⟩

set_option maxHeartbeats 2000000 in
theorem c_raw0 (vB : Value) (lB : List (List (BitVec 8))) (w0 : World)  (hb : RdK (blks w0) (encA u8) 64 vB lB) (hn : lB.length = 0 ∨ 100 < lB.length) (hn2 : lB.length ≤ 9223372036854775807) : CallsR Try.prog 22 #[vB] w0 (fun r w1 => r = (Value.pointer none) ∧ Ext w0 w1) := by
 refine callsR_of_cw (args := [vB]) Try.func22 rfl Try.ntmps22 Try.results22 rfl ?_
 have hm0 : Mem w0 (restOf w0) [] := Mem.of_world w0
 refine sR <| rw_q rfl (ev_assign (v := (Value.pointer none)) rfl) ?_
 refine rN (cw_seq (sR ?_))
 refine rM rfl (v := vB) rfl <| rw_q (v := (i64 (lB.length : Int))) rfl (ev_len_rk (RdK.ofRest hb hm0) uT40 rfl) <| rw_q rfl (ev_i64_eql (b := 0) rfl rfl) <| rw_q rfl (ev_move (v := (bl ((lB.length : Int) == 0))) rfl) ?_
 rcases Bool.eq_false_or_eq_true ((lB.length : Int) == 0) with hb1 | hb1
 · -- true
   have hb1p := eq_of_beq hb1
   refine rw_gn (s := 10) rfl rfl hb1 rfl <| rw_gn (s := 10) rfl rfl hb1 rfl <| rw_gn (s := 10) rfl rfl hb1 rfl <| rw_q rfl (ev_pick_tk rfl hb1 rfl) <| rN <| cw_cond_t rfl (by decide) ?_
   refine sR <| rw_q rfl (ev_assign (v := (Value.pointer none)) rfl) ?_
   refine rN (cw_ret (kThen_ret ?_))
   refine fnPost_ret [(Value.pointer none)] ⟨rfl, trivial⟩ ?_
   exact ⟨rfl, hm0.toExt⟩
 · -- false
   have hb1p := ne_of_beq_false hb1
   refine rw_gyq (s := 10) rfl rfl hb1 rfl (ev_move (v := vB) rfl) <| rw_gyq (s := 10) rfl rfl hb1 rfl (ev_len_rk (RdK.ofRest hb hm0) uT40 rfl) <| rw_gyq (s := 10) rfl rfl hb1 rfl (ev_i64_gtr (b := 100) rfl rfl) <| rw_q rfl (ev_pick_fk rfl hb1 rfl) <| rN ?_
   have hd2 : (decide (100 < (lB.length : Int))) = true := decide_eq_true (by have h := ne_of_beq_false hb1; omega)
   refine cw_cond_t rfl hd2 <| sR <| rw_q rfl (ev_assign (v := (Value.pointer none)) rfl) ?_
   refine rN (cw_ret (kThen_ret ?_))
   refine fnPost_ret [(Value.pointer none)] ⟨rfl, trivial⟩ ?_
   exact ⟨rfl, hm0.toExt⟩

set_option maxHeartbeats 2000000 in
theorem c_opens0 (bd : Nat) (vl : Value) (ls : List (List (BitVec 8))) (Hl : List (Nat × Obj)) (w0 : World) (R : Rest) (hm0 : Mem w0 R ([(bd, .cells #[vl, (Value.slice none 0 0)] 94 (0, 0))] ++ (Hl ++ ([])))) (gl : GrowK (encA u8) 64 83 vl ls Hl) (h4 : ls.length < 4) : CallsR Try.prog 24 #[(ptr bd 0)] w0 (fun r w1 => r = .tuple #[.pointer none, bl true] ∧ Mem w1 R ([(bd, .cells #[vl, (Value.slice none 0 0)] 94 (0, 0))] ++ (Hl ++ ([])))) := by
 refine callsR_of_cw (args := [(ptr bd 0)]) Try.func24 rfl Try.ntmps24 Try.results24 rfl <| sR <| rw_q rfl (ev_assign (v := (Value.pointer none)) rfl) <| rw_q rfl (ev_assign (v := (bl false)) rfl) ?_
 refine rN (sR ?_)
 refine rw_q rfl (ev_move (v := (ptr bd 0)) rfl) <| rw_c rfl (opR_call Try.func25 bd25 nm25 (args1 rfl) (c_blocks bd vl ls (Value.slice none 0 0) _ hm0.h0 (gl.rd (Mem.pick [_] Hl _ hm0)) (RdK.nil _ _) sL)) ?_
 rintro rq2 w1 ⟨Hsq2, grq2, k_w1⟩
 have hm1 : Mem w1 R (Hsq2 ++ ([(bd, .cells #[vl, (Value.slice none 0 0)] 94 (0, 0))] ++ (Hl ++ ([])))) := Mem.new (H := [(bd, .cells #[vl, (Value.slice none 0 0)] 94 (0, 0))] ++ (Hl ++ ([]))) (H' := Hsq2) hm0 k_w1
 refine rA rfl (v := rq2) rfl ?_
 refine rN (sR ?_)
 refine rw_q rfl (ev_move (v := (ptr bd 0)) rfl) <| rw_c rfl (opR_call Try.func14 bd14 nm14 (args1 rfl) (c_jopen0 bd vl ls (Value.slice none 0 0) ([]) _ ((Mem.pick Hsq2 [_] _ hm1)).h0 (gl.rd (Mem.pick2 Hsq2 [_] Hl _ hm1)) (RdK.nil _ _) sL)) ?_
 rintro _ w3 ⟨rfl, _ew3⟩
 have hm3 := hm1.ext _ew3
 refine rw_q rfl (ev_move (v := (Value.tuple #[(Value.pointer none), (i64 2)])) rfl) <| rw_q (v := (Value.pointer none)) rfl (ev_extract rfl rfl) <| rw_q (v := (i64 2)) rfl (ev_extract rfl rfl) <| rw_q rfl (ev_assign (v := (Value.pointer none)) rfl) <| rw_q rfl (ev_assign (v := (i64 2)) rfl) ?_
 refine rN (cw_seq (sR ?_))
 refine rM rfl (v := rq2) rfl <| rw_q (v := (i64 (ls.length : Int))) rfl (ev_len_rk (grq2.rd hm3) uT40 rfl) <| rw_q rfl (ev_i64_lss (b := 4) rfl rfl) <| rN ?_
 have hd5 : (decide ((ls.length : Int) < 4)) = true := decide_eq_true oM
 refine cw_cond_t rfl hd5 <| sR <| rw_q rfl (ev_move (v := (i64 2)) rfl) <| rw_q rfl (ev_i64_eql (b := 2) rfl rfl) <| rw_q rfl (ev_move (v := (bl (2 == 2))) rfl) ?_
 have hd6 : (2 == 2) = true := told_true rfl
 refine rw_gyq (s := 28) rfl rfl hd6 rfl (ev_move (v := (Value.pointer none)) rfl) <| rw_gyq (s := 28) rfl rfl hd6 rfl (ev_nil_nil_eql uT29 rfl rfl) <| rw_q rfl (ev_pick_tk rfl hd6 rfl) <| rw_q rfl (ev_assign (v := (Value.pointer none)) rfl) <| rw_q rfl (ev_assign (v := (bl true)) rfl) <| rN ?_
 refine CW.abs (fun g => g 0 = (ptr bd 0) ∧ g 2 = (Value.pointer none) ∧ g 3 = (bl true) ∧ g 4 = rq2 ∧ g 5 = (Value.pointer none) ∧ g 6 = (i64 2) ∧ g 25 = (bl (decide ((ls.length : Int) < 4))) ∧ True) ⟨rfl, rfl, rfl, rfl, rfl, rfl, rfl, trivial⟩ ?_
 rintro fr7 ⟨s0, s2, s3, s4, s5, s6, s25, _⟩
 refine cw_ret (kThen_ret ?_)
 refine fnPost_ret [(Value.pointer none), (bl true)] ⟨s2, s3, trivial⟩ ?_
 have hm8 := Mem.drop Hsq2 _ hm3
 exact ⟨rfl, (by
   have hT := hm8
   try simp only [List.append_assoc, List.cons_append, List.nil_append, List.append_nil] at hT ⊢
   exact hT)⟩

set_option maxHeartbeats 2000000 in
theorem c_opensF (bd : Nat) (vl : Value) (ls : List (List (BitVec 8))) (Hl : List (Nat × Obj)) (w0 : World) (R : Rest) (hm0 : Mem w0 R ([(bd, .cells #[vl, (Value.slice none 0 0)] 94 (0, 0))] ++ (Hl ++ ([])))) (gl : GrowK (encA u8) 64 83 vl ls Hl) (h4 : 4 ≤ ls.length ∧ ls.length ≤ 1000) (hnew : (newB ls [] == 0#64) = true) : CallsR Try.prog 24 #[(ptr bd 0)] w0 (fun r w1 => r = .tuple #[.pointer none, bl true] ∧ Mem w1 R ([(bd, .cells #[vl, (Value.slice none 0 0)] 94 (0, 0))] ++ (Hl ++ ([])))) := by
 refine callsR_of_cw (args := [(ptr bd 0)]) Try.func24 rfl Try.ntmps24 Try.results24 rfl <| sR <| rw_q rfl (ev_assign (v := (Value.pointer none)) rfl) <| rw_q rfl (ev_assign (v := (bl false)) rfl) ?_
 refine rN (sR ?_)
 refine rw_q rfl (ev_move (v := (ptr bd 0)) rfl) <| rw_c rfl (opR_call Try.func25 bd25 nm25 (args1 rfl) (c_blocks bd vl ls (Value.slice none 0 0) _ hm0.h0 (gl.rd (Mem.pick [_] Hl _ hm0)) (RdK.nil _ _) sL)) ?_
 rintro rq2 w1 ⟨Hsq2, grq2, k_w1⟩
 have hm1 : Mem w1 R (Hsq2 ++ ([(bd, .cells #[vl, (Value.slice none 0 0)] 94 (0, 0))] ++ (Hl ++ ([])))) := Mem.new (H := [(bd, .cells #[vl, (Value.slice none 0 0)] 94 (0, 0))] ++ (Hl ++ ([]))) (H' := Hsq2) hm0 k_w1
 refine rA rfl (v := rq2) rfl ?_
 refine rN (sR ?_)
 refine rw_q rfl (ev_move (v := (ptr bd 0)) rfl) <| rw_c rfl (opR_call Try.func14 bd14 nm14 (args1 rfl) (c_jopenF bd vl ls (Value.slice none 0 0) ([]) _ ((Mem.pick Hsq2 [_] _ hm1)).h0 (gl.rd (Mem.pick2 Hsq2 [_] Hl _ hm1)) (RdK.nil _ _) sL sL hnew)) ?_
 rintro _ w3 ⟨rfl, _ew3⟩
 have hm3 := hm1.ext _ew3
 refine rw_q rfl (ev_move (v := (Value.tuple #[(Value.pointer none), (i64 6)])) rfl) <| rw_q (v := (Value.pointer none)) rfl (ev_extract rfl rfl) <| rw_q (v := (i64 6)) rfl (ev_extract rfl rfl) <| rw_q rfl (ev_assign (v := (Value.pointer none)) rfl) <| rw_q rfl (ev_assign (v := (i64 6)) rfl) ?_
 refine rN (cw_seq (sR ?_))
 refine rM rfl (v := rq2) rfl <| rw_q (v := (i64 (ls.length : Int))) rfl (ev_len_rk (grq2.rd hm3) uT40 rfl) <| rw_q rfl (ev_i64_lss (b := 4) rfl rfl) <| rN ?_
 have hd5 : (decide ((ls.length : Int) < 4)) = false := decide_eq_false oM
 refine cw_cond_f rfl hd5 ?_
 refine cw_skip (kThen_normal (sR ?_))
 refine rM rfl (v := rq2) rfl <| rw_c rfl (opR_call Try.func28 bd28 nm28 (args1 rfl) (c_rdisk rq2 ls _ (grq2.rd hm3) sL)) ?_
 rintro _ w6 ⟨r1q7, lsq7, Hsq7, rfl, hMq7, hLq7, grq7, k_w6⟩
 have hm6 : Mem w6 R (Hsq7 ++ (Hsq2 ++ ([(bd, .cells #[vl, (Value.slice none 0 0)] 94 (0, 0))] ++ (Hl ++ ([]))))) := Mem.new (H := Hsq2 ++ ([(bd, .cells #[vl, (Value.slice none 0 0)] 94 (0, 0))] ++ (Hl ++ ([])))) (H' := Hsq7) hm3 k_w6
 refine rw_q rfl (ev_move (v := (Value.tuple #[(bl ((diskR ls).1)), (i64 ((diskR ls).2.1 : Int)), r1q7])) rfl) <| rw_q (v := (bl ((diskR ls).1))) rfl (ev_extract rfl rfl) <| rw_q (v := (i64 ((diskR ls).2.1 : Int))) rfl (ev_extract rfl rfl) <| rw_q (v := r1q7) rfl (ev_extract rfl rfl) <| rw_q rfl (ev_assign (v := (bl ((diskR ls).1))) rfl) <| rw_q rfl (ev_assign (v := (i64 ((diskR ls).2.1 : Int))) rfl) ?_
 refine rA rfl (v := r1q7) rfl <| rN ?_
 refine CW.abs (fun g => g 0 = (ptr bd 0) ∧ g 2 = (Value.pointer none) ∧ g 3 = (bl false) ∧ g 4 = rq2 ∧ g 5 = (Value.pointer none) ∧ g 6 = (i64 6) ∧ g 7 = (bl ((diskR ls).1)) ∧ g 8 = (i64 ((diskR ls).2.1 : Int)) ∧ g 9 = r1q7 ∧ g 25 = (bl (decide ((ls.length : Int) < 4))) ∧ True) ⟨rfl, rfl, rfl, rfl, rfl, rfl, rfl, rfl, rfl, rfl, trivial⟩ ?_
 rintro fr8 ⟨s0, s2, s3, s4, s5, s6, s7, s8, s9, s25, _⟩
 refine cw_seq (sR ?_)
 refine rM rfl s8 <| rw_q rfl (ev_i64_eql (b := 0) rfl rfl) <| rN ?_
 refine cw_meet (J := fun g wv => ∃ (sec : Bool) (vL : Value) (lL : List SlT) (HL : List (Nat × Obj)), (oldB ls [] = (if sec = true then ((ls.length : Int) / 2) else 0, lL.map (·.2))) ∧ (GrowL mN 23 vL lL HL) ∧ g 0 = (ptr bd 0) ∧ g 2 = (Value.pointer none) ∧ g 3 = (bl false) ∧ g 4 = rq2 ∧ g 5 = (Value.pointer none) ∧ g 6 = (i64 6) ∧ g 7 = (bl sec) ∧ g 8 = (i64 ((diskR ls).2.1 : Int)) ∧ g 9 = vL ∧ g 25 = (bl (decide ((ls.length : Int) < 4))) ∧ g 39 = (bl (((diskR ls).2.1 : Int) == 0)) ∧ Mem wv R ([(bd, .cells #[vl, (Value.slice none 0 0)] 94 (0, 0))] ++ (Hl ++ (Hsq2 ++ (HL ++ ([])))))) ?_ ?_
 · skip
   refine cw_cond rfl (fun hc9 => ?_) (fun hc9 => ?_)
   · -- true
     have hc9p := eq_of_beq hc9
     refine cw_region <| rw_c rfl (or_buildSlice_cl u8 [] u8_one hm6 uT23 ti5 rfl (by simp [pairs]) rfl) ?_
     rintro _ w10 ⟨b40, rfl, _ew10, hm10⟩
     refine rw_c rfl (or_buildSlice_ones [(slc b40 0 0 0)] (by simp [slc, ptr, Value.oneCell', i64, u8, u32, u64, bl]) hm10 uT22 ti23 rfl rfl rfl) ?_
     rintro _ w11 ⟨b41, rfl, _ew11, hm11⟩
     have hm11 : Mem w11 R ([(b41, .cells #[(slc b40 0 0 0)] 23 (0, 0)), (b40, .cells (cl u8 ([])) 5 (0, 0))] ++ (Hsq7 ++ (Hsq2 ++ ([(bd, .cells #[vl, (Value.slice none 0 0)] 94 (0, 0))] ++ (Hl ++ ([])))))) := hm11
     obtain ⟨HL11, gL11, hmL11⟩ : ∃ q, GrowL mN 23 (slc b41 0 1 1) [toSl (slc b40 0 0 0) ([])] q ∧ Mem w11 R (q ++ (Hsq7 ++ (Hsq2 ++ ([(bd, .cells #[vl, (Value.slice none 0 0)] 94 (0, 0))] ++ (Hl ++ ([])))))) := ⟨_, GrowL.of1 (Grow.toSl ([]) (Grow.of u8 5 b40 ([]))) (el_grow (Grow.of u8 5 b40 ([]))), (by
       have hT := hm11
       try simp only [List.append_assoc, List.cons_append, List.nil_append, List.append_nil] at hT ⊢
       exact hT)⟩
     refine rw_q rfl (ev_assign (v := (bl true)) rfl) <| rw_q rfl (ev_assign (v := (slc b41 0 1 1)) rfl) <| rN ?_
     have hm12 := Mem.drop Hsq7 _ (Mem.pick HL11 Hsq7 _ hmL11)
     have hm13 := (Mem.pick HL11 Hsq2 _ hm12)
     have hm14 := (Mem.pick3 Hsq2 HL11 [_] Hl _ hm13)
     have hm15 := (Mem.pick3 Hl Hsq2 HL11 [_] _ hm14)
     exact ⟨true, (slc b41 0 1 1), [toSl (slc b40 0 0 0) ([])], HL11, ((old_new oM rfl hc9).trans (by rw [if_pos rfl]; rfl)), gL11, s0, s2, s3, s4, s5, s6, rfl, s8, rfl, s25, rfl, (by
       have hT := hm15
       try simp only [List.append_assoc, List.cons_append, List.nil_append, List.append_nil] at hT ⊢
       exact hT)⟩
   · -- false
     have hc9p := ne_of_beq_false hc9
     refine cw_skip (kThen_normal ?_)
     have hm16 := (Mem.pick Hsq7 Hsq2 _ hm6)
     have hm17 := (Mem.pick3 Hsq2 Hsq7 [_] Hl _ hm16)
     have hm18 := (Mem.pick3 Hl Hsq2 Hsq7 [_] _ hm17)
     exact ⟨(diskR ls).1, r1q7, lsq7, Hsq7, ((old_is oM rfl hc9).trans (by rw [hMq7])), grq7, s0, s2, s3, s4, s5, s6, s7, s8, s9, s25, rfl, (by
       have hT := hm18
       try simp only [List.append_assoc, List.cons_append, List.nil_append, List.append_nil] at hT ⊢
       exact hT)⟩
 · rintro fr19 w20 ⟨sec, vL, lL, HL, hOB, gL, s0, s2, s3, s4, s5, s6, s7, s8, s9, s25, s39, hm20⟩
   refine sR <| rM rfl s4 <| rw_c rfl (opR_call Try.func27 bd27 nm27 (args1 rfl) (c_rnewest rq2 ls _ (grq2.rd (Mem.pick2 [_] Hl Hsq2 _ hm20)) sL)) ?_
   rintro _ w21 ⟨rfl, _ew21⟩
   have hm21 := hm20.ext _ew21
   refine rw_q rfl (ev_assign (v := (i64 ((topK ls ls.length : Int) + 1))) rfl) ?_
   refine rN (cw_seq (sR ?_))
   refine rw_q rfl (ev_move (v := (i64 ((topK ls ls.length : Int) + 1))) rfl) <| rw_q rfl (ev_i64_geq (b := 4294967296) rfl rfl) <| rN ?_
   have hd23 : (decide (4294967296 ≤ ((topK ls ls.length : Int) + 1))) = true := decide_eq_true (by have hz := new_zero hnew; omega)
   refine cw_cond_t rfl hd23 <| sR <| rM rfl s6 <| rw_q rfl (ev_i64_eql (b := 6) rfl rfl) <| rw_q rfl (ev_move (v := (bl (6 == 6))) rfl) ?_
   have hd24 : (6 == 6) = true := told_true rfl
   refine rw_gyq (s := 48) rfl rfl hd24 rfl (ev_move s5) <| rw_gyq (s := 48) rfl rfl hd24 rfl (ev_nil_nil_eql uT29 rfl rfl) <| rw_q rfl (ev_pick_tk rfl hd24 rfl) <| rw_q rfl (ev_assign (v := (Value.pointer none)) rfl) <| rw_q rfl (ev_assign (v := (bl true)) rfl) ?_
   refine rN (cw_ret (kThen_ret ?_))
   refine fnPost_ret [(Value.pointer none), (bl true)] ⟨rfl, rfl, trivial⟩ ?_
   have hm25 := Mem.drop Hsq2 _ (Mem.pick2 [_] Hl Hsq2 _ hm21)
   have hm26 := Mem.drop HL _ (Mem.pick2 [_] Hl HL _ hm25)
   exact ⟨rfl, (by
     have hT := hm26
     try simp only [List.append_assoc, List.cons_append, List.nil_append, List.append_nil] at hT ⊢
     exact hT)⟩

set_option maxHeartbeats 2000000 in
theorem c_opens1 (bd : Nat) (vl : Value) (ls : List (List (BitVec 8))) (Hl : List (Nat × Obj)) (w0 : World) (R : Rest) (hm0 : Mem w0 R ([(bd, .cells #[vl, (Value.slice none 0 0)] 94 (0, 0))] ++ (Hl ++ ([])))) (gl : GrowK (encA u8) 64 83 vl ls Hl) (h4 : 4 ≤ ls.length ∧ ls.length ≤ 1000) (hnew : (newB ls [] == 0#64) = false) : CallsR Try.prog 24 #[(ptr bd 0)] w0 (fun r w1 => ∃ bn vr rs Hr Hl2, r = .tuple #[ptr bn 0, bl true] ∧ rs.map (·.2) = (oldB ls []).2 ∧ rs.length = (oldB ls []).2.length ∧ GrowL mN 23 vr rs Hr ∧ GrowK (encA u8) 64 83 vl (openD ls []) Hl2 ∧ Mem w1 R ([(bn, .cells #[(ptr bd 0), (i64 (((ls.length : Int) / 2) - (oldB ls []).1)), (i64 ((ls.length : Int) / 2)), (u64 (newB ls [])), vr, (i64 (roomB (oldB ls []).2 : Int))] 100 (0, 0))] ++ (Hr ++ ([(bd, .cells #[vl, (Value.slice none 0 0)] 94 (0, 0))] ++ (Hl2 ++ ([])))))) := by
 refine callsR_of_cw (args := [(ptr bd 0)]) Try.func24 rfl Try.ntmps24 Try.results24 rfl <| sR <| rw_q rfl (ev_assign (v := (Value.pointer none)) rfl) <| rw_q rfl (ev_assign (v := (bl false)) rfl) ?_
 refine rN (sR ?_)
 refine rw_q rfl (ev_move (v := (ptr bd 0)) rfl) <| rw_c rfl (opR_call Try.func25 bd25 nm25 (args1 rfl) (c_blocks bd vl ls (Value.slice none 0 0) _ hm0.h0 (gl.rd (Mem.pick [_] Hl _ hm0)) (RdK.nil _ _) sL)) ?_
 rintro rq2 w1 ⟨Hsq2, grq2, k_w1⟩
 have hm1 : Mem w1 R (Hsq2 ++ ([(bd, .cells #[vl, (Value.slice none 0 0)] 94 (0, 0))] ++ (Hl ++ ([])))) := Mem.new (H := [(bd, .cells #[vl, (Value.slice none 0 0)] 94 (0, 0))] ++ (Hl ++ ([]))) (H' := Hsq2) hm0 k_w1
 refine rA rfl (v := rq2) rfl ?_
 refine rN (sR ?_)
 refine rw_q rfl (ev_move (v := (ptr bd 0)) rfl) ?_
 have hF4 : Mem w1 R (([(bd, .cells #[vl, (Value.slice none 0 0)] 94 (0, 0))] ++ (Hl ++ ([] ++ ([])))) ++ (Hsq2 ++ ([]))) := by
   have hT := (Mem.pick2 Hl Hsq2 [_] _ (Mem.pick2 Hsq2 [_] Hl _ hm1))
   try simp only [List.append_assoc, List.cons_append, List.nil_append, List.append_nil] at hT ⊢
   exact hT
 refine rw_c rfl (opR_call Try.func14 bd14 nm14 (args1 rfl) (c_jopen bd vl ls Hl (Value.slice none 0 0) ([]) ([]) _ _ (Mem.give hF4) gl (GrowK.none encW 65 104) sL sL okP_nil hnew)) ?_
 rintro _ w3 ⟨bnq5, vrq5, rsq5, Hrq5, Hl2q5, rfl, hMq5, hLq5, grq5, gl2q5, k_w3⟩
 have hm3 : Mem w3 R ([(bnq5, .cells #[(ptr bd 0), (i64 (((ls.length : Int) / 2) - (oldB ls ([])).1)), (i64 ((ls.length : Int) / 2)), (u64 (newB ls ([]))), vrq5, (i64 (roomB (oldB ls ([])).2 : Int))] 100 (0, 0))] ++ (Hrq5 ++ ([(bd, .cells #[vl, (Value.slice none 0 0)] 94 (0, 0))] ++ (Hl2q5 ++ (Hsq2 ++ ([])))))) := (by
   have hT := Mem.back hF4 k_w3
   try simp only [List.append_assoc, List.cons_append, List.nil_append, List.append_nil] at hT ⊢
   exact hT)
 refine rw_q rfl (ev_move (v := (Value.tuple #[(ptr bnq5 0), (i64 0)])) rfl) <| rw_q (v := (ptr bnq5 0)) rfl (ev_extract rfl rfl) <| rw_q (v := (i64 0)) rfl (ev_extract rfl rfl) <| rw_q rfl (ev_assign (v := (ptr bnq5 0)) rfl) <| rw_q rfl (ev_assign (v := (i64 0)) rfl) ?_
 refine rN (cw_seq (sR ?_))
 refine rM rfl (v := rq2) rfl <| rw_q (v := (i64 (ls.length : Int))) rfl (ev_len_rk (grq2.rd (Mem.pick4 [_] Hrq5 [_] Hl2q5 Hsq2 _ hm3)) uT40 rfl) <| rw_q rfl (ev_i64_lss (b := 4) rfl rfl) <| rN ?_
 have hd6 : (decide ((ls.length : Int) < 4)) = false := decide_eq_false oM
 refine cw_cond_f rfl hd6 ?_
 refine cw_skip (kThen_normal (sR ?_))
 refine rM rfl (v := rq2) rfl <| rw_c rfl (opR_call Try.func28 bd28 nm28 (args1 rfl) (c_rdisk rq2 ls _ (grq2.rd (Mem.pick4 [_] Hrq5 [_] Hl2q5 Hsq2 _ hm3)) sL)) ?_
 rintro _ w7 ⟨r1q8, lsq8, Hsq8, rfl, hMq8, hLq8, grq8, k_w7⟩
 have hm7 : Mem w7 R (Hsq8 ++ ([(bnq5, .cells #[(ptr bd 0), (i64 (((ls.length : Int) / 2) - (oldB ls ([])).1)), (i64 ((ls.length : Int) / 2)), (u64 (newB ls ([]))), vrq5, (i64 (roomB (oldB ls ([])).2 : Int))] 100 (0, 0))] ++ (Hrq5 ++ ([(bd, .cells #[vl, (Value.slice none 0 0)] 94 (0, 0))] ++ (Hl2q5 ++ (Hsq2 ++ ([]))))))) := Mem.new (H := [(bnq5, .cells #[(ptr bd 0), (i64 (((ls.length : Int) / 2) - (oldB ls ([])).1)), (i64 ((ls.length : Int) / 2)), (u64 (newB ls ([]))), vrq5, (i64 (roomB (oldB ls ([])).2 : Int))] 100 (0, 0))] ++ (Hrq5 ++ ([(bd, .cells #[vl, (Value.slice none 0 0)] 94 (0, 0))] ++ (Hl2q5 ++ (Hsq2 ++ ([])))))) (H' := Hsq8) hm3 k_w7
 refine rw_q rfl (ev_move (v := (Value.tuple #[(bl ((diskR ls).1)), (i64 ((diskR ls).2.1 : Int)), r1q8])) rfl) <| rw_q (v := (bl ((diskR ls).1))) rfl (ev_extract rfl rfl) <| rw_q (v := (i64 ((diskR ls).2.1 : Int))) rfl (ev_extract rfl rfl) <| rw_q (v := r1q8) rfl (ev_extract rfl rfl) <| rw_q rfl (ev_assign (v := (bl ((diskR ls).1))) rfl) <| rw_q rfl (ev_assign (v := (i64 ((diskR ls).2.1 : Int))) rfl) ?_
 refine rA rfl (v := r1q8) rfl <| rN ?_
 refine CW.abs (fun g => g 0 = (ptr bd 0) ∧ g 2 = (Value.pointer none) ∧ g 3 = (bl false) ∧ g 4 = rq2 ∧ g 5 = (ptr bnq5 0) ∧ g 6 = (i64 0) ∧ g 7 = (bl ((diskR ls).1)) ∧ g 8 = (i64 ((diskR ls).2.1 : Int)) ∧ g 9 = r1q8 ∧ g 25 = (bl (decide ((ls.length : Int) < 4))) ∧ True) ⟨rfl, rfl, rfl, rfl, rfl, rfl, rfl, rfl, rfl, rfl, trivial⟩ ?_
 rintro fr9 ⟨s0, s2, s3, s4, s5, s6, s7, s8, s9, s25, _⟩
 refine cw_seq (sR ?_)
 refine rM rfl s8 <| rw_q rfl (ev_i64_eql (b := 0) rfl rfl) <| rN ?_
 refine cw_meet (J := fun g wv => ∃ (sec : Bool) (vL : Value) (lL : List SlT) (HL : List (Nat × Obj)), (oldB ls [] = (if sec = true then ((ls.length : Int) / 2) else 0, lL.map (·.2))) ∧ (GrowL mN 23 vL lL HL) ∧ g 0 = (ptr bd 0) ∧ g 2 = (Value.pointer none) ∧ g 3 = (bl false) ∧ g 4 = rq2 ∧ g 5 = (ptr bnq5 0) ∧ g 6 = (i64 0) ∧ g 7 = (bl sec) ∧ g 8 = (i64 ((diskR ls).2.1 : Int)) ∧ g 9 = vL ∧ g 25 = (bl (decide ((ls.length : Int) < 4))) ∧ g 39 = (bl (((diskR ls).2.1 : Int) == 0)) ∧ Mem wv R ([(bnq5, .cells #[(ptr bd 0), (i64 (((ls.length : Int) / 2) - (oldB ls ([])).1)), (i64 ((ls.length : Int) / 2)), (u64 (newB ls ([]))), vrq5, (i64 (roomB (oldB ls ([])).2 : Int))] 100 (0, 0))] ++ (Hrq5 ++ ([(bd, .cells #[vl, (Value.slice none 0 0)] 94 (0, 0))] ++ (Hl2q5 ++ (Hsq2 ++ (HL ++ ([])))))))) ?_ ?_
 · skip
   refine cw_cond rfl (fun hc10 => ?_) (fun hc10 => ?_)
   · -- true
     have hc10p := eq_of_beq hc10
     refine cw_region <| rw_c rfl (or_buildSlice_cl u8 [] u8_one hm7 uT23 ti5 rfl (by simp [pairs]) rfl) ?_
     rintro _ w11 ⟨b40, rfl, _ew11, hm11⟩
     refine rw_c rfl (or_buildSlice_ones [(slc b40 0 0 0)] (by simp [slc, ptr, Value.oneCell', i64, u8, u32, u64, bl]) hm11 uT22 ti23 rfl rfl rfl) ?_
     rintro _ w12 ⟨b41, rfl, _ew12, hm12⟩
     have hm12 : Mem w12 R ([(b41, .cells #[(slc b40 0 0 0)] 23 (0, 0)), (b40, .cells (cl u8 ([])) 5 (0, 0))] ++ (Hsq8 ++ ([(bnq5, .cells #[(ptr bd 0), (i64 (((ls.length : Int) / 2) - (oldB ls ([])).1)), (i64 ((ls.length : Int) / 2)), (u64 (newB ls ([]))), vrq5, (i64 (roomB (oldB ls ([])).2 : Int))] 100 (0, 0))] ++ (Hrq5 ++ ([(bd, .cells #[vl, (Value.slice none 0 0)] 94 (0, 0))] ++ (Hl2q5 ++ (Hsq2 ++ ([])))))))) := hm12
     obtain ⟨HL12, gL12, hmL12⟩ : ∃ q, GrowL mN 23 (slc b41 0 1 1) [toSl (slc b40 0 0 0) ([])] q ∧ Mem w12 R (q ++ (Hsq8 ++ ([(bnq5, .cells #[(ptr bd 0), (i64 (((ls.length : Int) / 2) - (oldB ls ([])).1)), (i64 ((ls.length : Int) / 2)), (u64 (newB ls ([]))), vrq5, (i64 (roomB (oldB ls ([])).2 : Int))] 100 (0, 0))] ++ (Hrq5 ++ ([(bd, .cells #[vl, (Value.slice none 0 0)] 94 (0, 0))] ++ (Hl2q5 ++ (Hsq2 ++ ([])))))))) := ⟨_, GrowL.of1 (Grow.toSl ([]) (Grow.of u8 5 b40 ([]))) (el_grow (Grow.of u8 5 b40 ([]))), (by
       have hT := hm12
       try simp only [List.append_assoc, List.cons_append, List.nil_append, List.append_nil] at hT ⊢
       exact hT)⟩
     refine rw_q rfl (ev_assign (v := (bl true)) rfl) <| rw_q rfl (ev_assign (v := (slc b41 0 1 1)) rfl) <| rN ?_
     have hm13 := Mem.drop Hsq8 _ (Mem.pick HL12 Hsq8 _ hmL12)
     have hm14 := (Mem.pick5 HL12 [_] Hrq5 [_] Hl2q5 Hsq2 _ hm13)
     have hm15 := (Mem.pick5 Hsq2 HL12 [_] Hrq5 [_] Hl2q5 _ hm14)
     have hm16 := (Mem.pick5 Hl2q5 Hsq2 HL12 [_] Hrq5 [_] _ hm15)
     have hm17 := (Mem.pick5 [_] Hl2q5 Hsq2 HL12 [_] Hrq5 _ hm16)
     have hm18 := (Mem.pick5 Hrq5 [_] Hl2q5 Hsq2 HL12 [_] _ hm17)
     exact ⟨true, (slc b41 0 1 1), [toSl (slc b40 0 0 0) ([])], HL12, ((old_new oM rfl hc10).trans (by rw [if_pos rfl]; rfl)), gL12, s0, s2, s3, s4, s5, s6, rfl, s8, rfl, s25, rfl, (by
       have hT := hm18
       try simp only [List.append_assoc, List.cons_append, List.nil_append, List.append_nil] at hT ⊢
       exact hT)⟩
   · -- false
     have hc10p := ne_of_beq_false hc10
     refine cw_skip (kThen_normal ?_)
     have hm19 := (Mem.pick5 Hsq8 [_] Hrq5 [_] Hl2q5 Hsq2 _ hm7)
     have hm20 := (Mem.pick5 Hsq2 Hsq8 [_] Hrq5 [_] Hl2q5 _ hm19)
     have hm21 := (Mem.pick5 Hl2q5 Hsq2 Hsq8 [_] Hrq5 [_] _ hm20)
     have hm22 := (Mem.pick5 [_] Hl2q5 Hsq2 Hsq8 [_] Hrq5 _ hm21)
     have hm23 := (Mem.pick5 Hrq5 [_] Hl2q5 Hsq2 Hsq8 [_] _ hm22)
     exact ⟨(diskR ls).1, r1q8, lsq8, Hsq8, ((old_is oM rfl hc10).trans (by rw [hMq8])), grq8, s0, s2, s3, s4, s5, s6, s7, s8, s9, s25, rfl, (by
       have hT := hm23
       try simp only [List.append_assoc, List.cons_append, List.nil_append, List.append_nil] at hT ⊢
       exact hT)⟩
 · rintro fr24 w25 ⟨sec, vL, lL, HL, hOB, gL, s0, s2, s3, s4, s5, s6, s7, s8, s9, s25, s39, hm25⟩
   refine cw_seq ?_
   have hOB2 := old_fst hOB
   have hnv := new_val hnew
   obtain ⟨⟨fr, hfr, hfh⟩, hop, hor⟩ := old_any (ls := ls) oM oM
   obtain ⟨hJ, hlay⟩ := open_any (fr := fr) (growA_mem gl) oM oM hnew hfr
   rw [hOB2.2] at hop hor hlay
   have hrml := room_len (L := (lL.map (·.2)))
   have hlm : (lL.map (·.2)).length = lL.length := by rw [List.length_map]
   have hodl : (openD ls []).length = ls.length := openD_len
   have hMr : rsq5.map (·.2) = (oldB ls []).2 := hMq5
   have hLr : rsq5.length = lL.length := by rw [hLq5, hOB2.2, List.length_map]
   have hel0 : ∀ b ∈ (lL.map (·.2)), b.length ≤ 42000 := hOB2.2 ▸ old_el oM
   refine cw_region <| rM rfl s4 <| rw_c rfl (opR_call Try.func27 bd27 nm27 (args1 rfl) (c_rnewest rq2 ls _ (grq2.rd (Mem.pick4 [_] Hrq5 [_] Hl2q5 Hsq2 _ hm25)) sL)) ?_
   rintro _ w26 ⟨rfl, _ew26⟩
   have hm26 := hm25.ext _ew26
   refine rw_q rfl (ev_assign (v := (i64 ((topK ls ls.length : Int) + 1))) rfl) ?_
   refine rN (cw_seq (cw_seq ?_))
   refine CW.abs (fun g => g 0 = (ptr bd 0) ∧ g 2 = (Value.pointer none) ∧ g 3 = (bl false) ∧ g 4 = rq2 ∧ g 5 = (ptr bnq5 0) ∧ g 6 = (i64 0) ∧ g 7 = (bl sec) ∧ g 8 = (i64 ((diskR ls).2.1 : Int)) ∧ g 9 = vL ∧ g 10 = (i64 ((newB ls []).toNat : Int)) ∧ g 25 = (bl (decide ((ls.length : Int) < 4))) ∧ g 39 = (bl (((diskR ls).2.1 : Int) == 0)) ∧ True) ⟨s0, s2, s3, s4, s5, s6, s7, s8, s9, (Eq.trans rfl (show i64 ((topK ls ls.length : Int) + 1) = i64 ((newB ls []).toNat : Int) from congrArg i64 oM)), s25, s39, trivial⟩ ?_
   rintro fr28 ⟨s0, s2, s3, s4, s5, s6, s7, s8, s9, s10, s25, s39, _⟩
   refine cw_region <| rM rfl s10 <| rw_q rfl (ev_i64_geq (b := 4294967296) rfl rfl) <| rN ?_
   have hd29 : (decide (4294967296 ≤ ((newB ls []).toNat : Int))) = false := decide_eq_false oM
   refine cw_cond_f rfl hd29 ?_
   refine cw_skip (kThen_normal (cw_seq (sR ?_)))
   refine rM rfl s6 <| rw_q rfl (ev_i64_neq (b := 0) rfl rfl) <| rw_q rfl (ev_move (v := (bl (0 != 0))) rfl) ?_
   have hd30 : (0 != 0) = false := told_ne rfl
   refine rw_gyq (s := 54) rfl rfl hd30 rfl (ev_move s5) <| rw_gyq (s := 54) rfl rfl hd30 rfl (ev_ptr_nil_eql uT29 rfl rfl) <| rw_q rfl (ev_pick_fk rfl hd30 rfl) <| rw_q rfl (ev_move (v := (bl false)) rfl) <| rw_gyq (s := 58) rfl rfl rfl rfl (ev_move s5) <| rw_gy (s := 58) rfl rfl rfl rfl (opR_call Try.func19 bd19 nm19 (args1 rfl) (c_jrecords bnq5 bd (((ls.length : Int) / 2) - (oldB ls ([])).1) ((ls.length : Int) / 2) (newB ls ([])) vrq5 rsq5 (roomB (oldB ls ([])).2 : Int) _ hm26.h0 (GrowL.rd grq5 (Mem.pick [_] Hrq5 _ hm26) nN) sL (map_el (hMr.trans hOB2.2) (P := fun b => b.length ≤ 35184372088832) (fun b hb => by have := hel0 b hb; omega)))) ?_
   rintro rq32 w31 ⟨ls2q32, Hsq32, hMq32, hLq32, grq32, k_w31⟩
   have hm31 : Mem w31 R (Hsq32 ++ ([(bnq5, .cells #[(ptr bd 0), (i64 (((ls.length : Int) / 2) - (oldB ls ([])).1)), (i64 ((ls.length : Int) / 2)), (u64 (newB ls ([]))), vrq5, (i64 (roomB (oldB ls ([])).2 : Int))] 100 (0, 0))] ++ (Hrq5 ++ ([(bd, .cells #[vl, (Value.slice none 0 0)] 94 (0, 0))] ++ (Hl2q5 ++ (Hsq2 ++ (HL ++ ([])))))))) := Mem.new (H := [(bnq5, .cells #[(ptr bd 0), (i64 (((ls.length : Int) / 2) - (oldB ls ([])).1)), (i64 ((ls.length : Int) / 2)), (u64 (newB ls ([]))), vrq5, (i64 (roomB (oldB ls ([])).2 : Int))] 100 (0, 0))] ++ (Hrq5 ++ ([(bd, .cells #[vl, (Value.slice none 0 0)] 94 (0, 0))] ++ (Hl2q5 ++ (Hsq2 ++ (HL ++ ([]))))))) (H' := Hsq32) hm26 k_w31
   have hMr2 : ls2q32.map (·.2) = (oldB ls []).2 := by rw [hMq32]; exact hMr
   refine rw_gyq (s := 58) rfl rfl rfl rfl (ev_move s9) <| rw_gy (s := 58) rfl rfl rfl rfl (opR_call Try.func18 bd18 nm18 (args2 rfl rfl) (c_samelist rq32 ls2q32 vL lL _ (GrowL.rd grq32 hm31 nN) (GrowL.rd gL (Mem.pick6 Hsq32 [_] Hrq5 [_] Hl2q5 Hsq2 HL _ hm31) nN) sL (map_el (hMr2.trans hOB2.2) (P := fun b => b.length ≤ 281474976710656) (fun b hb => by have := hel0 b hb; omega)))) ?_
   rintro _ w33 ⟨rfl, _ew33⟩
   have hm33 := hm31.ext _ew33
   refine rw_gyq (s := 58) rfl rfl rfl rfl (ev_not rfl) <| rw_q rfl (ev_pick_f rfl rfl) <| rw_q rfl (ev_move (v := (bl (!((ls2q32.map (·.2)) == (lL.map (·.2)))))) rfl) ?_
   have hd35 : ((ls2q32.map (·.2)) == (lL.map (·.2))) = true := told_true (by rw [hMr2, hOB2.2])
   have hd36 : (!((ls2q32.map (·.2)) == (lL.map (·.2)))) = false := congrArg Bool.not hd35
   refine rw_gyq (s := 65) rfl rfl hd36 rfl (ev_move s0) <| rw_gy (s := 65) rfl rfl hd36 rfl (opR_call Try.func29 bd29 nm29 (args1 rfl) (c_dpend bd vl (openD ls ([])) (Value.slice none 0 0) ([]) _ ((Mem.pick3 Hsq32 [_] Hrq5 [_] _ hm33)).h0 (gl2q5.rd (Mem.pick4 Hsq32 [_] Hrq5 [_] Hl2q5 _ hm33)) (RdK.nil _ _))) ?_
   rintro _ w37 ⟨rfl, _ew37⟩
   have hm37 := hm33.ext _ew37
   refine rw_gyq (s := 65) rfl rfl hd36 rfl (ev_i64_neq (b := 0) rfl rfl) <| rw_q rfl (ev_pick_fk rfl hd36 rfl) <| rN ?_
   have hm39 := Mem.drop Hsq32 _ hm37
   refine CW.abs (fun g => g 0 = (ptr bd 0) ∧ g 2 = (Value.pointer none) ∧ g 3 = (bl false) ∧ g 4 = rq2 ∧ g 5 = (ptr bnq5 0) ∧ g 6 = (i64 0) ∧ g 7 = (bl sec) ∧ g 8 = (i64 ((diskR ls).2.1 : Int)) ∧ g 9 = vL ∧ g 10 = (i64 ((newB ls []).toNat : Int)) ∧ g 25 = (bl (decide ((ls.length : Int) < 4))) ∧ g 39 = (bl (((diskR ls).2.1 : Int) == 0)) ∧ g 45 = (bl (decide (4294967296 ≤ ((newB ls []).toNat : Int)))) ∧ g 69 = (bl (((([]) : List WriteT).length : Int) != 0)) ∧ True) ⟨s0, s2, s3, s4, s5, s6, s7, s8, s9, s10, s25, s39, rfl, rfl, trivial⟩ ?_
   rintro fr40 ⟨s0, s2, s3, s4, s5, s6, s7, s8, s9, s10, s25, s39, s45, s69, _⟩
   have hd41 : (((([]) : List WriteT).length : Int) != 0) = false := rfl
   refine cw_cond_f s69 hd41 ?_
   refine cw_skip (kThen_normal (sR ?_))
   refine rM rfl s4 <| rw_q (v := (i64 (ls.length : Int))) rfl (ev_len_rk (grq2.rd (Mem.pick4 [_] Hrq5 [_] Hl2q5 Hsq2 _ hm39)) uT40 rfl) <| rw_q rfl (ev_i64_quo (b := 2) rfl rfl oM oM oM) <| rw_q rfl (ev_assign (v := (i64 ((ls.length : Int) / 2))) rfl) ?_
   refine rN (cw_seq (sR ?_))
   refine rM rfl s7 <| rN ?_
   refine cw_meet (J := fun g wv => g 0 = (ptr bd 0) ∧ g 2 = (Value.pointer none) ∧ g 3 = (bl false) ∧ g 4 = rq2 ∧ g 5 = (ptr bnq5 0) ∧ g 6 = (i64 0) ∧ g 7 = (bl sec) ∧ g 8 = (i64 ((diskR ls).2.1 : Int)) ∧ g 9 = vL ∧ g 10 = (i64 ((newB ls []).toNat : Int)) ∧ g 11 = (i64 (fr : Int)) ∧ g 25 = (bl (decide ((ls.length : Int) < 4))) ∧ g 39 = (bl (((diskR ls).2.1 : Int) == 0)) ∧ g 45 = (bl (decide (4294967296 ≤ ((newB ls []).toNat : Int)))) ∧ g 69 = (bl (((([]) : List WriteT).length : Int) != 0)) ∧ g 73 = (bl sec) ∧ Mem wv R ([(bnq5, .cells #[(ptr bd 0), (i64 (((ls.length : Int) / 2) - (oldB ls ([])).1)), (i64 ((ls.length : Int) / 2)), (u64 (newB ls ([]))), vrq5, (i64 (roomB (oldB ls ([])).2 : Int))] 100 (0, 0))] ++ (Hrq5 ++ ([(bd, .cells #[vl, (Value.slice none 0 0)] 94 (0, 0))] ++ (Hl2q5 ++ (Hsq2 ++ (HL ++ ([])))))))) ?_ ?_
   · skip
     refine cw_cond rfl (fun hc42 => ?_) (fun hc42 => ?_)
     · -- true
       refine cw_region <| rw_q rfl (ev_assign (v := (i64 0)) rfl) <| rN ?_
       exact ⟨s0, s2, s3, s4, s5, s6, s7, s8, s9, s10, (Eq.trans rfl (congrArg i64 (by have h1 := hOB2.1; rw [if_pos hc42] at h1; omega))), s25, s39, s45, s69, rfl, hm39⟩
     · -- false
       refine cw_skip (kThen_normal ?_)
       exact ⟨s0, s2, s3, s4, s5, s6, s7, s8, s9, s10, (Eq.trans rfl (congrArg i64 (by have h1 := hOB2.1; rw [if_neg (by rw [hc42]; simp)] at h1; omega))), s25, s39, s45, s69, rfl, hm39⟩
   · rintro fr43 w44 ⟨s0, s2, s3, s4, s5, s6, s7, s8, s9, s10, s11, s25, s39, s45, s69, s73, hm44⟩
     refine cw_seq (sR ?_)
     refine rM rfl s9 <| rw_q (v := (i64 (lL.length : Int))) rfl (ev_len_rd (RdL.row (GrowL.rd gL (Mem.pick5 [_] Hrq5 [_] Hl2q5 Hsq2 HL _ hm44) nN)) uT22 rfl) <| rw_q rfl (ev_move (v := (i64 0)) rfl) ?_
     refine rN (cw_block ?_)
     refine cw_loop (fun g wv => ∃ (k : Nat) (Hb : List (Nat × Obj)), (k ≤ lL.length) ∧ (GrowK (encA u8) 64 83 rq2 (layD ls fr (newB ls []) (lL.map (·.2)) k) Hb) ∧ g 0 = (ptr bd 0) ∧ g 2 = (Value.pointer none) ∧ g 3 = (bl false) ∧ g 4 = rq2 ∧ g 5 = (ptr bnq5 0) ∧ g 6 = (i64 0) ∧ g 7 = (bl sec) ∧ g 8 = (i64 ((diskR ls).2.1 : Int)) ∧ g 9 = vL ∧ g 10 = (i64 ((newB ls []).toNat : Int)) ∧ g 11 = (i64 ((fr + roomB ((lL.map (·.2)).take k) : Nat) : Int)) ∧ g 25 = (bl (decide ((ls.length : Int) < 4))) ∧ g 39 = (bl (((diskR ls).2.1 : Int) == 0)) ∧ g 45 = (bl (decide (4294967296 ≤ ((newB ls []).toNat : Int)))) ∧ g 69 = (bl (((([]) : List WriteT).length : Int) != 0)) ∧ g 73 = (bl sec) ∧ g 74 = vL ∧ g 75 = (i64 (lL.length : Int)) ∧ g 76 = (i64 (k : Int)) ∧ Mem wv R ([(bnq5, .cells #[(ptr bd 0), (i64 (((ls.length : Int) / 2) - (oldB ls ([])).1)), (i64 ((ls.length : Int) / 2)), (u64 (newB ls ([]))), vrq5, (i64 (roomB (oldB ls ([])).2 : Int))] 100 (0, 0))] ++ (Hrq5 ++ ([(bd, .cells #[vl, (Value.slice none 0 0)] 94 (0, 0))] ++ (Hl2q5 ++ (Hb ++ (HL ++ ([])))))))) (fun g wv => ((lL.length : Int) - RowKit.intOf (g 76)).toNat) ?_ ?_
     · exact ⟨0, Hsq2, (Nat.zero_le _), (GrowK.cast grq2 layD_0), s0, s2, s3, s4, s5, s6, s7, s8, s9, s10, (s11.trans (congrArg i64 (by have h0 := room_0 (L := (lL.map (·.2))); omega))), s25, s39, s45, s69, s73, rfl, rfl, rfl, (by
       have hT := hm44
       try simp only [List.append_assoc, List.cons_append, List.nil_append, List.append_nil] at hT ⊢
       exact hT)⟩
     · rintro fr45 w46 ⟨k, Hb, hk, gb, s0, s2, s3, s4, s5, s6, s7, s8, s9, s10, s11, s25, s39, s45, s69, s73, s74, s75, s76, hm46⟩
       have z4 := s4
       have z11 := s11
       have z76 := s76
       refine sR <| rw_q rfl (ev_i64_lss s76 s75) ?_
       refine rN (cw_seq ?_)
       refine cw_cond rfl (fun hc47 => ?_) (fun hc47 => ?_)
       · -- true
         have hc47p := of_decide_eq_true hc47
         have hgk : (lL.getD k sl0).2 = (lL.map (·.2)).getD k [] := snd_getD rfl oM
         have helk := hel0 _ (getD_mem (d := []) (show k < (lL.map (·.2)).length by omega))
         rw [← hgk] at helk
         have hrs1 := roomT_S (L := (lL.map (·.2))) (k := k) oM
         have hrt1 := roomT_le (L := (lL.map (·.2))) (k + 1)
         have hbdl : (blksD (newB ls []) (BitVec.ofInt 64 (k : Int)) (lL.getD k sl0).2).length = blocksN (lL.getD k sl0).2.length := blksD_len
         have hll1 := layD_len (b := ls) (fr := fr) (g := (newB ls [])) (L := (lL.map (·.2))) k
         rw [← hgk] at hrs1
         refine cw_skip (kThen_normal (cw_seq (cw_block (sR ?_))))
         refine rM rfl s76 <| rw_q rfl (ev_indexAddr_rdv (RdL.row (GrowL.rd gL (Mem.pick5 [_] Hrq5 [_] Hl2q5 Hb HL _ hm46) nN)) uT22 ti23 s74 s76 oM sL) <| rw_q (v := (slv (lL.getD k sl0))) rfl (ev_load_rdD (l := lL) (i := (k : Int)) (dflt := sl0) (RdL.row (GrowL.rd gL (Mem.pick5 [_] Hrq5 [_] Hl2q5 Hb HL _ hm46) nN)) uT23 rfl oM sL rfl) <| rw_q rfl (ev_assign (v := (i64 (k : Int))) rfl) <| rw_q rfl (ev_assign (v := (slv (lL.getD k sl0))) rfl) ?_
         refine rN (sR ?_)
         refine rM rfl s10 <| rw_q rfl (ev_move (v := (i64 (k : Int))) rfl) <| rw_q rfl (ev_move (v := (slv (lL.getD k sl0))) rfl) <| rw_c rfl (opR_call Try.func44 bd44 nm44 (args3 rfl rfl rfl) (c_rblocksF (newB ls []) k (slv (lL.getD k sl0)) ((lL.getD k sl0).2) _ (RdL.get (k := k) (GrowL.rd gL (Mem.pick5 [_] Hrq5 [_] Hl2q5 Hb HL _ hm46) nN) sL) sL sL sL)) ?_
         rintro r1q49 w48 ⟨Hsq49, grq49, k_w48⟩
         have hm48 : Mem w48 R (Hsq49 ++ ([(bnq5, .cells #[(ptr bd 0), (i64 (((ls.length : Int) / 2) - (oldB ls ([])).1)), (i64 ((ls.length : Int) / 2)), (u64 (newB ls ([]))), vrq5, (i64 (roomB (oldB ls ([])).2 : Int))] 100 (0, 0))] ++ (Hrq5 ++ ([(bd, .cells #[vl, (Value.slice none 0 0)] 94 (0, 0))] ++ (Hl2q5 ++ (Hb ++ (HL ++ ([])))))))) := Mem.new (H := [(bnq5, .cells #[(ptr bd 0), (i64 (((ls.length : Int) / 2) - (oldB ls ([])).1)), (i64 ((ls.length : Int) / 2)), (u64 (newB ls ([]))), vrq5, (i64 (roomB (oldB ls ([])).2 : Int))] 100 (0, 0))] ++ (Hrq5 ++ ([(bd, .cells #[vl, (Value.slice none 0 0)] 94 (0, 0))] ++ (Hl2q5 ++ (Hb ++ (HL ++ ([]))))))) (H' := Hsq49) hm46 k_w48
         refine rw_q (v := (i64 ((blksD (newB ls []) (BitVec.ofInt 64 (k : Int)) ((lL.getD k sl0).2)).length : Int))) rfl (ev_len_rk (grq49.rd hm48) uT40 rfl) <| rw_q rfl (ev_move (v := (i64 0)) rfl) ?_
         refine rN (cw_block' ?_)
         refine cw_loop (fun g wv => ∃ (i : Nat) (Hc : List (Nat × Obj)), (i ≤ (blksD (newB ls []) (BitVec.ofInt 64 (k : Int)) (lL.getD k sl0).2).length) ∧ (GrowK (encA u8) 64 83 rq2 (putD (layD ls fr (newB ls []) (lL.map (·.2)) k) (fr + roomB ((lL.map (·.2)).take k)) (blksD (newB ls []) (BitVec.ofInt 64 (k : Int)) (lL.getD k sl0).2) i) Hc) ∧ g 0 = (ptr bd 0) ∧ g 2 = (Value.pointer none) ∧ g 3 = (bl false) ∧ g 4 = rq2 ∧ g 5 = (ptr bnq5 0) ∧ g 6 = (i64 0) ∧ g 7 = (bl sec) ∧ g 8 = (i64 ((diskR ls).2.1 : Int)) ∧ g 9 = vL ∧ g 10 = (i64 ((newB ls []).toNat : Int)) ∧ g 11 = (i64 ((fr + roomB ((lL.map (·.2)).take k) + i : Nat) : Int)) ∧ g 12 = (i64 (k : Int)) ∧ g 13 = (slv (lL.getD k sl0)) ∧ g 25 = (bl (decide ((ls.length : Int) < 4))) ∧ g 39 = (bl (((diskR ls).2.1 : Int) == 0)) ∧ g 45 = (bl (decide (4294967296 ≤ ((newB ls []).toNat : Int)))) ∧ g 69 = (bl (((([]) : List WriteT).length : Int) != 0)) ∧ g 73 = (bl sec) ∧ g 74 = vL ∧ g 75 = (i64 (lL.length : Int)) ∧ g 76 = (i64 (k : Int)) ∧ g 77 = (bl (decide ((k : Int) < (lL.length : Int)))) ∧ g 84 = r1q49 ∧ g 85 = (i64 ((blksD (newB ls []) (BitVec.ofInt 64 (k : Int)) ((lL.getD k sl0).2)).length : Int)) ∧ g 86 = (i64 (i : Int)) ∧ Mem wv R ([(bnq5, .cells #[(ptr bd 0), (i64 (((ls.length : Int) / 2) - (oldB ls ([])).1)), (i64 ((ls.length : Int) / 2)), (u64 (newB ls ([]))), vrq5, (i64 (roomB (oldB ls ([])).2 : Int))] 100 (0, 0))] ++ (Hrq5 ++ ([(bd, .cells #[vl, (Value.slice none 0 0)] 94 (0, 0))] ++ (Hl2q5 ++ (Hc ++ (HL ++ (Hsq49 ++ ([]))))))))) (fun g wv => (((blksD (newB ls []) (BitVec.ofInt 64 (k : Int)) (lL.getD k sl0).2).length : Int) - RowKit.intOf (g 86)).toNat) ?_ ?_
         have hm50 := (Mem.pick6 Hsq49 [_] Hrq5 [_] Hl2q5 Hb HL _ hm48)
         have hm51 := (Mem.pick6 HL Hsq49 [_] Hrq5 [_] Hl2q5 Hb _ hm50)
         have hm52 := (Mem.pick6 Hb HL Hsq49 [_] Hrq5 [_] Hl2q5 _ hm51)
         have hm53 := (Mem.pick6 Hl2q5 Hb HL Hsq49 [_] Hrq5 [_] _ hm52)
         have hm54 := (Mem.pick6 [_] Hl2q5 Hb HL Hsq49 [_] Hrq5 _ hm53)
         have hm55 := (Mem.pick6 Hrq5 [_] Hl2q5 Hb HL Hsq49 [_] _ hm54)
         · exact ⟨0, Hb, (Nat.zero_le _), (GrowK.cast gb putD_0), s0, s2, s3, s4, s5, s6, s7, s8, s9, s10, s11, rfl, rfl, s25, s39, s45, s69, s73, s74, s75, s76, rfl, rfl, rfl, rfl, (by
           have hT := hm55
           try simp only [List.append_assoc, List.cons_append, List.nil_append, List.append_nil] at hT ⊢
           exact hT)⟩
         · rintro fr56 w57 ⟨i, Hc, hi, gc, s0, s2, s3, s4, s5, s6, s7, s8, s9, s10, s11, s12, s13, s25, s39, s45, s69, s73, s74, s75, s76, s77, s84, s85, s86, hm57⟩
           have z4 := s4
           have z11 := s11
           have z86 := s86
           refine sR <| rw_q rfl (ev_i64_lss s86 s85) ?_
           refine rN (cw_seq ?_)
           refine cw_cond rfl (fun hc58 => ?_) (fun hc58 => ?_)
           · -- true
             have hc58p := of_decide_eq_true hc58
             have hpl1 := putD_len (b := layD ls fr (newB ls []) (lL.map (·.2)) k) (at_ := fr + roomB ((lL.map (·.2)).take k)) (xs := (blksD (newB ls []) (BitVec.ofInt 64 (k : Int)) (lL.getD k sl0).2)) i
             have hxi : ((blksD (newB ls []) (BitVec.ofInt 64 (k : Int)) (lL.getD k sl0).2).getD i []).length = 64 := by rw [blksD_at oM]; exact blkOf_len
             refine cw_skip (kThen_normal (cw_seq (cw_block (sR ?_))))
             refine rw_q rfl (ev_indexAddr_rk (i := (i : Int)) (grq49.rd (Mem.pick6 [_] Hrq5 [_] Hl2q5 Hc HL Hsq49 _ hm57)) uT40 ti83 s84 s86 oM sL) <| rw_q (v := (agg u8 ((blksD (newB ls []) (BitVec.ofInt 64 (k : Int)) ((lL.getD k sl0).2)).getD i []))) rfl (ev_load_rka (i := (i : Int)) (grq49.rd (Mem.pick6 [_] Hrq5 [_] Hl2q5 Hc HL Hsq49 _ hm57)) sL uT83 ti83 rfl rfl) <| rw_c rfl (or_alloc_agg hm57 ti83) ?_
             rintro _ w59 ⟨b15, rfl, _ew59, hm59⟩
             refine rw_n (or_store_agg (f := u8) (l := (blksD (newB ls []) (BitVec.ofInt 64 (k : Int)) ((lL.getD k sl0).2)).getD i []) u8_one ti83 rfl rfl sL hm59.h0 (by rw [size_cl]; first | omega | (simp only [List.length_set, List.length_append, List.length_replicate, List.length_map, List.length_cons, List.length_nil]; omega) | (simp; done) | (simp; omega) | decide) rfl) ?_
             rintro _ w60 uq60
             have hm60 := hm59.upd0 uq60
             refine rN (sR ?_)
             refine rM rfl s4 <| rM rfl s11 <| rw_q (v := (agg u8 ((blksD (newB ls []) (BitVec.ofInt 64 (k : Int)) ((lL.getD k sl0).2)).getD i []))) rfl (ev_loadA uT83 rfl ti83 rfl hm60.h0 (by rw [size_cl]; first | omega | (simp only [List.length_set, List.length_append, List.length_replicate, List.length_map, List.length_cons, List.length_nil]; omega) | (simp; done) | (simp; omega) | decide)) <| rw_q rfl (ev_indexAddr_rk (i := ((fr + roomB ((lL.map (·.2)).take k) + i : Nat) : Int)) (gc.rd (Mem.pick4 [_, _] Hrq5 [_] Hl2q5 Hc _ hm60)) uT40 ti83 rfl rfl oM sL) <| rw_n (or_storeKA (Hs := Hc) (H := [(b15, .cells (cl u8 ((blksD (newB ls []) (BitVec.ofInt 64 (k : Int)) ((lL.getD k sl0).2)).getD i [])) 83 (0, 0)), (bnq5, .cells #[(ptr bd 0), (i64 (((ls.length : Int) / 2) - (oldB ls ([])).1)), (i64 ((ls.length : Int) / 2)), (u64 (newB ls ([]))), vrq5, (i64 (roomB (oldB ls ([])).2 : Int))] 100 (0, 0))] ++ (Hrq5 ++ ([(bd, .cells #[vl, (Value.slice none 0 0)] 94 (0, 0))] ++ (Hl2q5 ++ (HL ++ (Hsq49 ++ ([]))))))) (i := ((fr + roomB ((lL.map (·.2)).take k) + i : Nat) : Int)) (bs := (blksD (newB ls []) (BitVec.ofInt 64 (k : Int)) ((lL.getD k sl0).2)).getD i []) (Mem.pick4 [_, _] Hrq5 [_] Hl2q5 Hc _ hm60) gc ti83 sL rfl rfl sL u8_one) ?_
             rintro _ w61 ⟨Hs61, hm61, g61⟩
             replace g61 : GrowK (encA u8) 64 83 rq2 ((putD (layD ls fr (newB ls []) (lL.map (·.2)) k) (fr + roomB ((lL.map (·.2)).take k)) (blksD (newB ls []) (BitVec.ofInt 64 (k : Int)) (lL.getD k sl0).2) i).set (fr + roomB ((lL.map (·.2)).take k) + i) ((blksD (newB ls []) (BitVec.ofInt 64 (k : Int)) ((lL.getD k sl0).2)).getD i [])) Hs61 := g61
             refine rN (cw_region ?_)
             refine rM rfl s11 <| rw_q rfl (ev_i64_add (b := 1) rfl rfl oM oM) <| rw_q rfl (ev_assign (v := (i64 (((fr + roomB ((lL.map (·.2)).take k) + i : Nat) : Int) + 1))) rfl) ?_
             refine rw_nil (kBlk_normal (cw_region ?_))
             refine rw_q rfl (ev_i64_add (b := 1) s86 rfl oM oM) <| rw_q rfl (ev_move (v := (i64 ((i : Int) + 1))) rfl) <| rN ?_
             have hm62 := Mem.drop ([(b15, .cells (cl u8 ((blksD (newB ls []) (BitVec.ofInt 64 (k : Int)) ((lL.getD k sl0).2)).getD i [])) 83 (0, 0))]) _ (Mem.pick Hs61 [_] _ hm61)
             have hm63 := (Mem.pick6 Hs61 [_] Hrq5 [_] Hl2q5 HL Hsq49 _ hm62)
             have hm64 := (Mem.pick6 Hsq49 Hs61 [_] Hrq5 [_] Hl2q5 HL _ hm63)
             have hm65 := (Mem.pick2 HL Hsq49 Hs61 _ hm64)
             have hm66 := (Mem.pick6 Hs61 HL Hsq49 [_] Hrq5 [_] Hl2q5 _ hm65)
             have hm67 := (Mem.pick6 Hl2q5 Hs61 HL Hsq49 [_] Hrq5 [_] _ hm66)
             have hm68 := (Mem.pick6 [_] Hl2q5 Hs61 HL Hsq49 [_] Hrq5 _ hm67)
             have hm69 := (Mem.pick6 Hrq5 [_] Hl2q5 Hs61 HL Hsq49 [_] _ hm68)
             exact ⟨⟨(i + 1), Hs61, oM, (GrowK.cast g61 (putD_S oM)), s0, s2, s3, s4, s5, s6, s7, s8, s9, s10, (Eq.trans rfl (congrArg i64 oM)), s12, s13, s25, s39, s45, s69, s73, s74, s75, s76, s77, s84, s85, rfl, (by
               have hT := hm69
               try simp only [List.append_assoc, List.cons_append, List.nil_append, List.append_nil] at hT ⊢
               exact hT)⟩, meas (rfl) z86 oM oM⟩
           · -- false
             have hc58p := of_decide_eq_false hc58
             refine cw_exit ?_
             refine kThen_exit (kThen_exit (kBlk_hit ?_))
             refine kBlk_normal (cw_region ?_)
             refine rw_q rfl (ev_i64_add (b := 1) s76 rfl oM oM) <| rw_q rfl (ev_move (v := (i64 ((k : Int) + 1))) rfl) <| rN ?_
             have hm70 := Mem.drop Hsq49 _ (Mem.pick6 [_] Hrq5 [_] Hl2q5 Hc HL Hsq49 _ hm57)
             exact ⟨⟨(k + 1), Hc, oM, (GrowK.cast gc (layD_S hgk (by rw [← hbdl]; omega))), s0, s2, s3, s4, s5, s6, s7, s8, s9, s10, (Eq.trans s11 (congrArg i64 (by rw [hrs1]; omega))), s25, s39, s45, s69, s73, s74, s75, rfl, (by
               have hT := hm70
               try simp only [List.append_assoc, List.cons_append, List.nil_append, List.append_nil] at hT ⊢
               exact hT)⟩, meas (rfl) z76 oM oM⟩
       · -- false
         have hc47p := of_decide_eq_false hc47
         have hll1 := layD_len (b := ls) (fr := fr) (g := (newB ls [])) (L := (lL.map (·.2))) k
         refine cw_exit ?_
         refine kThen_exit (kThen_exit (kBlk_hit ?_))
         refine sR <| rM rfl s5 <| rM rfl s4 <| rM rfl s0 <| rw_c rfl (opR_call Try.func25 bd25 nm25 (args1 rfl) (c_blocks bd vl (openD ls ([])) (Value.slice none 0 0) _ ((Mem.pick2 [_] Hrq5 [_] _ hm46)).h0 (gl2q5.rd (Mem.pick3 [_] Hrq5 [_] Hl2q5 _ hm46)) (RdK.nil _ _) sL)) ?_
         rintro rq72 w71 ⟨Hsq72, grq72, k_w71⟩
         have hm71 : Mem w71 R (Hsq72 ++ ([(bnq5, .cells #[(ptr bd 0), (i64 (((ls.length : Int) / 2) - (oldB ls ([])).1)), (i64 ((ls.length : Int) / 2)), (u64 (newB ls ([]))), vrq5, (i64 (roomB (oldB ls ([])).2 : Int))] 100 (0, 0))] ++ (Hrq5 ++ ([(bd, .cells #[vl, (Value.slice none 0 0)] 94 (0, 0))] ++ (Hl2q5 ++ (Hb ++ (HL ++ ([])))))))) := Mem.new (H := [(bnq5, .cells #[(ptr bd 0), (i64 (((ls.length : Int) / 2) - (oldB ls ([])).1)), (i64 ((ls.length : Int) / 2)), (u64 (newB ls ([]))), vrq5, (i64 (roomB (oldB ls ([])).2 : Int))] 100 (0, 0))] ++ (Hrq5 ++ ([(bd, .cells #[vl, (Value.slice none 0 0)] 94 (0, 0))] ++ (Hl2q5 ++ (Hb ++ (HL ++ ([]))))))) (H' := Hsq72) hm46 k_w71
         refine rw_c rfl (opR_call Try.func26 bd26 nm26 (args2 rfl rfl) (c_same15 rq2 (layD ls fr (newB ls []) (lL.map (·.2)) k) rq72 (openD ls ([])) _ (gb.rd (Mem.pick5 Hsq72 [_] Hrq5 [_] Hl2q5 Hb _ hm71)) (grq72.rd hm71) sL sL)) ?_
         rintro _ w73 ⟨rfl, _ew73⟩
         have hm73 := hm71.ext _ew73
         refine rw_q rfl (ev_assign (v := (ptr bnq5 0)) rfl) <| rw_q rfl (ev_assign (v := (bl ((layD ls fr (newB ls []) (lL.map (·.2)) k) == (openD ls ([]))))) rfl) ?_
         refine rN (cw_ret ?_)
         refine fnPost_ret [(ptr bnq5 0), (bl ((layD ls fr (newB ls []) (lL.map (·.2)) k) == (openD ls ([]))))] ⟨rfl, rfl, trivial⟩ ?_
         have hm75 := Mem.drop Hsq72 _ hm73
         have hm76 := Mem.drop Hb _ (Mem.pick4 [_] Hrq5 [_] Hl2q5 Hb _ hm75)
         have hm77 := Mem.drop HL _ (Mem.pick4 [_] Hrq5 [_] Hl2q5 HL _ hm76)
         have hke : k = (lL.map (·.2)).length := by omega
         have hq : ((layD ls fr (newB ls []) (lL.map (·.2)) k) == (openD ls ([]))) = true := by rw [hke, ← hlay]; exact beq_self_eq_true _
         rw [hq]
         exact ⟨bnq5, vrq5, rsq5, Hrq5, Hl2q5, rfl, hMr, (by rw [hLr, hOB2.2, List.length_map]), grq5, gl2q5, (by
           have hT := hm77
           try simp only [List.append_assoc, List.cons_append, List.nil_append, List.append_nil] at hT ⊢
           exact hT)⟩


end Go.Proofs.Ytfbnhoolkajebaa
