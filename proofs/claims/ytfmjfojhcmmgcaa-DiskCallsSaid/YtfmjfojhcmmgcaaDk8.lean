/- Contracts of the document's disk: new, write, sync. Conditions: none beyond those that each theorem states. -/
import Derived.Test.YtfmjfojhcmmgcaaDk7
namespace Go.Proofs.Ytfmjfojhcmmgcaa
set_option linter.unusedVariables false
set_option linter.unusedSimpArgs false
/-! ### The document's disk, plainly -/
def setB (ss : List (List (BitVec 8))) (n : Int) (b : List (BitVec 8)) : List (List (BitVec 8)) := if inB ss n then ss.set n.toNat b else ss
def addB {α : Type} (ss : List (List (BitVec 8))) (n : Int) (l : List α) (a : α) : List α := if inB ss n then l ++ [a] else l
theorem set_ok {ss : List (List (BitVec 8))} {n : Int} {b : List (BitVec 8)} (h : inB ss n = true) : ss.set n.toNat b = setB ss n b := by unfold setB; rw [h]; rfl
theorem set_no {ss : List (List (BitVec 8))} {n : Int} {b : List (BitVec 8)} (h : inB ss n = false) : ss = setB ss n b := by unfold setB; rw [h]; rfl
theorem add_ok {α : Type} {ss : List (List (BitVec 8))} {n : Int} {l : List α} {a : α} (h : inB ss n = true) : l ++ [a] = addB ss n l a := by unfold addB; rw [h]; rfl
theorem add_no {α : Type} {ss : List (List (BitVec 8))} {n : Int} {l : List α} {a : α} (h : inB ss n = false) : l = addB ss n l a := by unfold addB; rw [h]; rfl
theorem err_no {ls : List (List (BitVec 8))} {n : Int} (h : inB ls n = false) : errB ls n = 2 := by unfold errB; rw [h]; rfl
theorem inB_f1 {ls : List (List (BitVec 8))} {n : Int} (h : decide (n < 0) = true) : inB ls n = false := by unfold inB; rw [decide_eq_false (by have := of_decide_eq_true h; omega)]; rfl
theorem inB_f2 {ls : List (List (BitVec 8))} {n : Int} (h : decide ((ls.length : Int) ≤ n) = true) : inB ls n = false := by unfold inB; rw [decide_eq_false (p := n < (ls.length : Int)) (by have := of_decide_eq_true h; omega), Bool.and_false]
theorem map_at {ps : List WriteT} {k : Nat} (h : k < ps.length) : (ps.map WriteT.at_).getD k 0 = (ps.getD k write0).at_ := by simp [List.getD_eq_getElem?_getD, h]
theorem map_b {ps : List WriteT} {k : Nat} (h : k < ps.length) : (ps.map WriteT.b).getD k [] = (ps.getD k write0).b := by simp [List.getD_eq_getElem?_getD, h]
theorem pick_n {qs : List (BitVec 8)} {k n : Nat} (h : 0 < qs.length) (hn : (k : Int) % (qs.length : Int) = (n : Int)) : qs.getD n 0 = (picksB qs).getD (k % (picksB qs).length) 0 := by
  have e : k % qs.length = n := by
    have : ((k % qs.length : Nat) : Int) = (n : Int) := by rw [← hn]; rfl
    exact Int.ofNat.inj this
  rw [← picks_n (q := qs) oM, e]
theorem pick_0 {qs : List (BitVec 8)} {k : Nat} (h : ¬ 0 < qs.length) : 0#8 = (picksB qs).getD (k % (picksB qs).length) 0 := by
  rw [← picks_0 (q := qs) oM]
  simp [Nat.mod_one]
theorem cutz_1 {p : BitVec 8} (h : (((p.toNat : Int) % 3) == 1) = true) : 64 = cutN p := by
  have e : (p.toNat : Int) % 3 = 1 := by simpa using h
  unfold cutN; rw [if_pos oM]
theorem cutz_2 {p : BitVec 8} {n : Nat} (h1 : (((p.toNat : Int) % 3) == 1) = false) (h : (((p.toNat : Int) % 3) == 2) = true) (hn : ((p.toNat : Int) / 3) % 64 = (n : Int)) : n = cutN p := by
  have e : (p.toNat : Int) % 3 = 2 := by simpa using h
  have e1 : (p.toNat : Int) % 3 ≠ 1 := by simpa using h1
  unfold cutN; rw [if_neg oM, if_pos oM]; omega
theorem cutz_0 {p : BitVec 8} (h1 : (((p.toNat : Int) % 3) == 1) = false) (h : (((p.toNat : Int) % 3) == 2) = false) : 0 = cutN p := by
  have e : (p.toNat : Int) % 3 ≠ 2 := by simpa using h
  have e1 : (p.toNat : Int) % 3 ≠ 1 := by simpa using h1
  unfold cutN; rw [if_neg oM, if_neg oM]
theorem one_two {x : Int} (h : (x == 1) = true) : (x == 2) = false := by
  have e : x = 1 := by simpa using h
  rw [e]; rfl
theorem fill_step {bs cur : List (BitVec 8)} {j : Nat} (h1 : j < bs.length) (h2 : cur.length = bs.length) : (bs.take j ++ cur.drop j).set j (bs.getD j 0) = bs.take (j + 1) ++ cur.drop (j + 1) := by
  apply List.ext_getElem?
  intro i
  have hl : (bs.take j).length = j := by simp; omega
  have hl1 : (bs.take (j + 1)).length = j + 1 := by simp; omega
  rcases Nat.lt_trichotomy i j with h | h | h
  · rw [List.getElem?_set_ne oM, List.getElem?_append_left oM, List.getElem?_append_left oM, List.getElem?_take, List.getElem?_take, if_pos h, if_pos oM]
  · subst h
    rw [List.getElem?_set_self (by simp; omega), List.getElem?_append_left oM, List.getElem?_take, if_pos oM]
    simp [List.getD_eq_getElem?_getD, h1]
  · rw [List.getElem?_set_ne oM, List.getElem?_append_right oM, List.getElem?_append_right oM, hl, hl1, List.getElem?_drop, List.getElem?_drop]
    congr 1; omega
theorem fill_0 {bs cur : List (BitVec 8)} : cur = bs.take 0 ++ cur.drop 0 := by simp
theorem crash_put {ls : List (List (BitVec 8))} {ps : List WriteT} {qs : List (BitVec 8)} {k n : Nat} (hn : n = cutN (qs.getD (k % qs.length) 0)) :
    (crashK ls ps qs k).set ((ps.getD k write0).at_).toNat (((ps.getD k write0).b).take n ++ ((crashK ls ps qs k).getD ((ps.getD k write0).at_).toNat []).drop n) = crashK ls ps qs (k + 1) := by
  show _ = putW (crashK ls ps qs k) (ps.getD k write0) (cutN (qs.getD (k % qs.length) 0))
  unfold putW; rw [hn]
theorem growA_b {E : TypeId} {v : Value} {l : List (List (BitVec 8))} {Hs : List (Nat × Obj)} (h : GrowK (encA u8) 64 E v l Hs) {i : Nat} (hi : i < l.length) : (l.getD i []).length = 64 := by
  have e : l.getD i [] = l[i] := by simp [List.getD_eq_getElem?_getD, hi]
  rw [e]
  have := h.1 l[i] (by simp)
  simpa [encA] using this
attribute [local irreducible] crashB crashK pushB readB inB errB cutN seenW okW setB addB

set_option maxHeartbeats 2000000 in
theorem c_rnew (n : Int) (w0 : World)  (hn : 1 ≤ n ∧ n ≤ 65536) : CallsR Try.prog 31 #[(i64 n)] w0 (fun r w1 => ∃ br vs Hs vl Hl, r = ptr br 0 ∧ GrowK (encA u8) 64 43 vs (List.replicate n.toNat (List.replicate 64 (0 : BitVec 8))) Hs ∧ GrowK (encA u8) 64 43 vl (List.replicate n.toNat (List.replicate 64 (0 : BitVec 8))) Hl ∧ Mem w1 (restOf w0) ([(br, .cells #[vs, vl, (Value.slice none 0 0), (Value.slice none 0 0)] 63 (0, 0))] ++ (Hs ++ (Hl ++ ([]))))) := by
 refine callsR_of_cw (args := [(i64 n)]) Try.func31 rfl Try.ntmps31 Try.results31 rfl ?_
 have hm0 : Mem w0 (restOf w0) [] := Mem.of_world w0
 refine sR <| rw_q rfl (ev_assign (v := (Value.pointer none)) rfl) ?_
 refine rN (cw_seq ?_)
 refine cw_drawE (by kernel_rfl) ?_
 refine re_or 1 3 rfl rfl ?_ ?_
 · -- 1 ahead of 3
   refine re_plan [(0, false), (2, false), (1, true)] 3 rfl (by kernel_rfl) <| dw_q rfl rfl (fun _ _hx => ev_move (v := (i64 n)) rfl) <| dw_q rfl rfl (fun _ _hx => ev_move (v := (i64 n)) rfl) ?_
   refine dw_c rfl rfl (fun w1 _ew1 => ?_)
   have hm1 := hm0.ext _ew1
   refine OpR.mono (or_makeSlice hm1 uT61 ti43 rfl rfl oM oM oM oM) ?_
   rintro _ w2 ⟨b4, rfl, _ew2, hm2⟩
   rw [rep_cellsK (f := u8) (a := 0) (k := 64) rfl (by decide)] at hm2
   obtain ⟨Hs2, hm2, g2⟩ : ∃ Hs, Mem w2 (restOf w0) (Hs ++ []) ∧ GrowK (encA u8) 64 43 (slc b4 0 ((n : Int).toNat) ((n : Int).toNat)) (List.replicate ((n : Int).toNat) (List.replicate 64 (0 : BitVec 8))) Hs := ⟨_, hm2, GrowK.made⟩
   refine ⟨_ew2, ?_⟩
   refine dw_nil (fun w3 _ew3 => ?_)
   have hm3 := hm2.ext _ew3
   refine rw_c rfl (or_makeSlice hm3 uT61 ti43 rfl rfl oM oM oM oM) ?_
   rintro _ w4 ⟨b6, rfl, _ew4, hm4⟩
   rw [rep_cellsK (f := u8) (a := 0) (k := 64) rfl (by decide)] at hm4
   obtain ⟨Hs4, hm4, g4⟩ : ∃ Hs, Mem w4 (restOf w0) (Hs ++ (Hs2 ++ ([]))) ∧ GrowK (encA u8) 64 43 (slc b6 0 ((n : Int).toNat) ((n : Int).toNat)) (List.replicate ((n : Int).toNat) (List.replicate 64 (0 : BitVec 8))) Hs := ⟨_, hm4, GrowK.made⟩
   refine rw_q rfl (ev_build_pt (c := #[(slc b4 0 ((n : Int).toNat) ((n : Int).toNat)), (slc b6 0 ((n : Int).toNat) ((n : Int).toNat)), (Value.slice none 0 0), (Value.slice none 0 0)]) (pl := [(0, 1), (1, 1), (2, 1), (3, 1)]) ti63 uT63 (by kernel_rfl) (pm_cons (i := 0) (v := (slc b4 0 ((n : Int).toNat) ((n : Int).toNat))) (cs := #[(slc b4 0 ((n : Int).toNat) ((n : Int).toNat))]) rfl (one_cells g2.one) (pm_cons (i := 1) (v := (slc b6 0 ((n : Int).toNat) ((n : Int).toNat))) (cs := #[(slc b6 0 ((n : Int).toNat) ((n : Int).toNat))]) rfl (one_cells g4.one) pm_nil)) (by kernel_rfl)) <| rw_c rfl (or_boxX (cs := #[(slc b4 0 ((n : Int).toNat) ((n : Int).toNat)), (slc b6 0 ((n : Int).toNat) ((n : Int).toNat)), (Value.slice none 0 0), (Value.slice none 0 0)]) hm4 rfl) ?_
   rintro _ w5 ⟨b8, rfl, _ew5, hm5⟩
   refine rw_q rfl (ev_assign (v := (ptr b8 0)) rfl) ?_
   refine rN (cw_ret ?_)
   refine fnPost_ret [(ptr b8 0)] ⟨rfl, trivial⟩ ?_
   have hm6 := (Mem.pick [_] Hs4 _ hm5)
   have hm7 := (Mem.pick2 Hs4 [_] Hs2 _ hm6)
   have hm8 := (Mem.pick2 Hs2 Hs4 [_] _ hm7)
   exact ⟨b8, (slc b4 0 ((n : Int).toNat) ((n : Int).toNat)), Hs2, (slc b6 0 ((n : Int).toNat) ((n : Int).toNat)), Hs4, rfl, GrowK.cast g2 (by simp), GrowK.cast g4 (by simp), (by
     have hT := hm8
     simp only [List.append_assoc, List.cons_append, List.nil_append, List.append_nil] at hT ⊢
     exact hT)⟩
 · -- 3 ahead of 1
   refine re_plan [(0, false), (2, false), (3, true), (1, true)] 4 rfl (by kernel_rfl) <| dw_q rfl rfl (fun _ _hx => ev_move (v := (i64 n)) rfl) <| dw_q rfl rfl (fun _ _hx => ev_move (v := (i64 n)) rfl) ?_
   refine dw_c rfl rfl (fun w9 _ew9 => ?_)
   have hm9 := hm0.ext _ew9
   refine OpR.mono (or_makeSlice hm9 uT61 ti43 rfl rfl oM oM oM oM) ?_
   rintro _ w10 ⟨b6_1, rfl, _ew10, hm10⟩
   rw [rep_cellsK (f := u8) (a := 0) (k := 64) rfl (by decide)] at hm10
   obtain ⟨Hs10, hm10, g10⟩ : ∃ Hs, Mem w10 (restOf w0) (Hs ++ []) ∧ GrowK (encA u8) 64 43 (slc b6_1 0 ((n : Int).toNat) ((n : Int).toNat)) (List.replicate ((n : Int).toNat) (List.replicate 64 (0 : BitVec 8))) Hs := ⟨_, hm10, GrowK.made⟩
   refine ⟨_ew10, ?_⟩
   refine dw_c rfl rfl (fun w11 _ew11 => ?_)
   have hm11 := hm10.ext _ew11
   refine OpR.mono (or_makeSlice hm11 uT61 ti43 rfl rfl oM oM oM oM) ?_
   rintro _ w12 ⟨b4_1, rfl, _ew12, hm12⟩
   rw [rep_cellsK (f := u8) (a := 0) (k := 64) rfl (by decide)] at hm12
   obtain ⟨Hs12, hm12, g12⟩ : ∃ Hs, Mem w12 (restOf w0) (Hs ++ (Hs10 ++ ([]))) ∧ GrowK (encA u8) 64 43 (slc b4_1 0 ((n : Int).toNat) ((n : Int).toNat)) (List.replicate ((n : Int).toNat) (List.replicate 64 (0 : BitVec 8))) Hs := ⟨_, hm12, GrowK.made⟩
   refine ⟨_ew12, ?_⟩
   refine dw_nil (fun w13 _ew13 => ?_)
   have hm13 := hm12.ext _ew13
   refine rw_q rfl (ev_build_pt (c := #[(slc b4_1 0 ((n : Int).toNat) ((n : Int).toNat)), (slc b6_1 0 ((n : Int).toNat) ((n : Int).toNat)), (Value.slice none 0 0), (Value.slice none 0 0)]) (pl := [(0, 1), (1, 1), (2, 1), (3, 1)]) ti63 uT63 (by kernel_rfl) (pm_cons (i := 0) (v := (slc b4_1 0 ((n : Int).toNat) ((n : Int).toNat))) (cs := #[(slc b4_1 0 ((n : Int).toNat) ((n : Int).toNat))]) rfl (one_cells g12.one) (pm_cons (i := 1) (v := (slc b6_1 0 ((n : Int).toNat) ((n : Int).toNat))) (cs := #[(slc b6_1 0 ((n : Int).toNat) ((n : Int).toNat))]) rfl (one_cells g10.one) pm_nil)) (by kernel_rfl)) <| rw_c rfl (or_boxX (cs := #[(slc b4_1 0 ((n : Int).toNat) ((n : Int).toNat)), (slc b6_1 0 ((n : Int).toNat) ((n : Int).toNat)), (Value.slice none 0 0), (Value.slice none 0 0)]) hm13 rfl) ?_
   rintro _ w14 ⟨b8_1, rfl, _ew14, hm14⟩
   refine rw_q rfl (ev_assign (v := (ptr b8_1 0)) rfl) ?_
   refine rN (cw_ret ?_)
   refine fnPost_ret [(ptr b8_1 0)] ⟨rfl, trivial⟩ ?_
   exact ⟨b8_1, (slc b4_1 0 ((n : Int).toNat) ((n : Int).toNat)), Hs12, (slc b6_1 0 ((n : Int).toNat) ((n : Int).toNat)), Hs10, rfl, GrowK.cast g12 (by simp), GrowK.cast g10 (by simp), (by
     have hT := hm14
     simp only [List.append_assoc, List.cons_append, List.nil_append, List.append_nil] at hT ⊢
     exact hT)⟩

set_option maxHeartbeats 2000000 in
theorem c_rwrite (br : Nat) (vs : Value) (ss : List (List (BitVec 8))) (Hs : List (Nat × Obj)) (vl : Value) (ll : List (List (BitVec 8))) (Hl : List (Nat × Obj)) (va : Value) (la : List Int) (Ha : List (Nat × Obj)) (vw : Value) (lw : List (List (BitVec 8))) (Hw : List (Nat × Obj)) (n : Int) (b : List (BitVec 8)) (w0 : World) (R : Rest) (hm0 : Mem w0 R ([(br, .cells #[vs, vl, va, vw] 63 (0, 0))] ++ (Hs ++ (Hl ++ (Ha ++ (Hw ++ ([]))))))) (gs : GrowK (encA u8) 64 43 vs ss Hs) (gl : GrowK (encA u8) 64 43 vl ll Hl) (ga : Grow i64 3 va la Ha) (gw : GrowK (encA u8) 64 43 vw lw Hw) (hss : ss.length ≤ 65536) (hla : la.length ≤ 1048576) (hlw : lw.length ≤ 1048576) (hb : b.length = 64) : CallsR Try.prog 32 #[(ptr br 0), (i64 n), (agg u8 b)] w0 (fun r w1 => ∃ Hs2 va2 Ha2 vw2 Hw2, r = i64 (errB ss n) ∧ GrowK (encA u8) 64 43 vs (setB ss n b) Hs2 ∧ Grow i64 3 va2 (addB ss n la n) Ha2 ∧ GrowK (encA u8) 64 43 vw2 (addB ss n lw b) Hw2 ∧ Mem w1 R ([(br, .cells #[vs, vl, va2, vw2] 63 (0, 0))] ++ (Hs2 ++ (Hl ++ (Ha2 ++ (Hw2 ++ ([]))))))) := by
 refine callsR_of_cw (args := [(ptr br 0), (i64 n), (agg u8 b)]) Try.func32 rfl Try.ntmps32 Try.results32 rfl <| sR <| rw_c rfl (or_box_agg (f := u8) (l := b) hm0 rfl) ?_
 rintro _ w1 ⟨b5, rfl, _ew1, hm1⟩
 refine rw_q rfl (ev_assign (v := (i64 0)) rfl) ?_
 refine rN (cw_seq (sR ?_))
 refine rw_q rfl (ev_move (v := (i64 n)) rfl) <| rw_q rfl (ev_i64_lss (b := 0) rfl rfl) <| rw_q rfl (ev_move (v := (bl (decide (n < 0)))) rfl) ?_
 rcases Bool.eq_false_or_eq_true (decide (n < 0)) with hb2 | hb2
 · -- true
   have hb2p := of_decide_eq_true hb2
   refine rw_gn (s := 9) rfl rfl hb2 rfl <| rw_gn (s := 9) rfl rfl hb2 rfl <| rw_gn (s := 9) rfl rfl hb2 rfl <| rw_gn (s := 9) rfl rfl hb2 rfl <| rw_gn (s := 9) rfl rfl hb2 rfl <| rw_gn (s := 9) rfl rfl hb2 rfl ?_
   refine rw_gn (s := 9) rfl rfl hb2 rfl <| rw_q rfl (ev_pick_tk rfl hb2 rfl) <| rN <| cw_cond_t rfl (by decide) <| sR <| rw_q rfl (ev_assign (v := (i64 2)) rfl) ?_
   refine rN (cw_ret (kThen_ret ?_))
   refine fnPost_ret [(i64 2)] ⟨rfl, trivial⟩ ?_
   have hm3 := Mem.drop ([(b5, .cells (cl u8 b) 43 (0, 0))]) _ hm1
   have hin : inB ss n = false := inB_f1 hb2
   exact ⟨Hs, va, Ha, vw, Hw, (by rw [err_no hin]; rfl), GrowK.cast gs (set_no hin), Grow.cast ga (add_no hin), GrowK.cast gw (add_no hin), (by
     have hT := hm3
     simp only [List.append_assoc, List.cons_append, List.nil_append, List.append_nil] at hT ⊢
     exact hT)⟩
 · -- false
   have hb2p := of_decide_eq_false hb2
   refine rw_gyq (s := 9) rfl rfl hb2 rfl (ev_move (v := (i64 n)) rfl) <| rw_gyq (s := 9) rfl rfl hb2 rfl (ev_move (v := (ptr br 0)) rfl) <| rw_gyq (s := 9) rfl rfl hb2 rfl (ev_nilCheck rfl) <| rw_gyq (s := 9) rfl rfl hb2 rfl (ev_fa (r := 0) uT63 rfl (by first | rfl | omega) ti61 rfl rfl) <| rw_gyq (s := 9) rfl rfl hb2 rfl (ev_load1 uT61 rfl rfl hm1.h1 rfl) <| rw_gyq (s := 9) rfl rfl hb2 rfl (ev_len_rk (gs.rd (Mem.pick [_, _] Hs _ hm1)) uT61 rfl) ?_
   refine rw_gyq (s := 9) rfl rfl hb2 rfl (ev_i64_geq rfl rfl) <| rw_q rfl (ev_pick_fk rfl hb2 rfl) <| rN ?_
   refine cw_cond rfl (fun hc4 => ?_) (fun hc4 => ?_)
   · -- true
     have hc4p := of_decide_eq_true hc4
     refine sR <| rw_q rfl (ev_assign (v := (i64 2)) rfl) ?_
     refine rN (cw_ret (kThen_ret ?_))
     refine fnPost_ret [(i64 2)] ⟨rfl, trivial⟩ ?_
     have hm5 := Mem.drop ([(b5, .cells (cl u8 b) 43 (0, 0))]) _ hm1
     have hin : inB ss n = false := inB_f2 hc4
     exact ⟨Hs, va, Ha, vw, Hw, (by rw [err_no hin]; rfl), GrowK.cast gs (set_no hin), Grow.cast ga (add_no hin), GrowK.cast gw (add_no hin), (by
       have hT := hm5
       simp only [List.append_assoc, List.cons_append, List.nil_append, List.append_nil] at hT ⊢
       exact hT)⟩
   · -- false
     have hc4p := of_decide_eq_false hc4
     refine cw_skip (kThen_normal (cw_seq ?_))
     refine cw_draw [(0, false), (1, false), (2, false), (3, false), (4, false), (5, false)] 6 (by kernel_rfl) <| dw_q rfl rfl (fun _ _hx => ev_move (v := (ptr br 0)) rfl) <| dw_q rfl rfl (fun _ _hx => ev_nilCheck rfl) <| dw_q rfl rfl (fun _ _hx => ev_fa (r := 0) uT63 rfl (by first | rfl | omega) ti61 rfl rfl) <| dw_q (v := vs) rfl rfl (fun _ _hx => ev_load1 uT61 rfl rfl (hm1.ext _hx).h1 rfl) <| dw_q rfl rfl (fun _ _hx => ev_move (v := (i64 n)) rfl) ?_
     refine dw_q (v := (agg u8 b)) rfl rfl (fun _ _hx => ev_loadA uT43 rfl ti43 rfl (hm1.ext _hx).h0 (by rw [size_cl]; first | omega | (simp only [List.length_set, List.length_append, List.length_replicate, List.length_map, List.length_cons, List.length_nil]; omega) | (simp; done) | (simp; omega) | decide)) ?_
     refine dw_nil (fun w6 _ew6 => ?_)
     have hm6 := hm1.ext _ew6
     refine rw_q rfl (ev_indexAddr_rk (i := n) (gs.rd (Mem.pick [_, _] Hs _ hm6)) uT61 ti43 rfl rfl oM sL) <| rw_n (or_storeKA (Hs := Hs) (H := [(b5, .cells (cl u8 b) 43 (0, 0)), (br, .cells #[vs, vl, va, vw] 63 (0, 0))] ++ (Hl ++ (Ha ++ (Hw ++ ([]))))) (i := n) (bs := b) (Mem.pick [_, _] Hs _ hm6) gs ti43 sL rfl rfl sL u8_one) ?_
     rintro _ w7 ⟨Hs7, hm7, g7⟩
     replace g7 : GrowK (encA u8) 64 43 vs (ss.set ((n : Int).toNat) b) Hs7 := g7
     refine rN ?_
     refine CW.abs (fun g => g 0 = (ptr br 0) ∧ g 1 = (i64 n) ∧ g 2 = (agg u8 b) ∧ g 5 = (ptr b5 0) ∧ g 6 = (i64 0) ∧ g 17 = (bl (decide ((ss.length : Int) ≤ n))) ∧ True) ⟨rfl, rfl, rfl, rfl, rfl, rfl, trivial⟩ ?_
     rintro fr8 ⟨s0, s1, s2, s5, s6, s17, _⟩
     refine sR <| rM rfl s0 <| rM rfl s0 <| rw_q rfl (ev_nilCheck rfl) <| rw_q rfl (ev_fa (r := 2) uT63 rfl (by first | rfl | omega) ti35 rfl rfl) <| rw_q (v := va) rfl (ev_load1 uT35 rfl rfl ((Mem.pick2 Hs7 [_] [_] _ hm7)).h0 rfl) ?_
     refine rM rfl s1 <| rw_c rfl (or_buildSlice_cl i64 [n] i64_one hm7 uT35 ti3 rfl rfl rfl) ?_
     rintro _ w9 ⟨b31, rfl, _ew9, hm9⟩
     refine rw_c rfl (or_append (f := i64) (Hs := Ha) (H := [(b31, .cells (cl i64 ([n])) 3 (0, 0))] ++ (Hs7 ++ ([(b5, .cells (cl u8 b) 43 (0, 0)), (br, .cells #[vs, vl, va, vw] 63 (0, 0))] ++ (Hl ++ (Hw ++ ([])))))) (Mem.pick4 [_] Hs7 [_, _] Hl Ha _ hm9) ga rfl rfl (Rd.mkA hm9.h0) uT35 uT35 ti3 rfl i64_one sL sL) ?_
     rintro sv10 w10 ⟨Hs10, hm10, g10⟩
     replace g10 : Grow i64 3 sv10 (la ++ ([n])) Hs10 := g10
     refine rw_q rfl (ev_nilCheck rfl) <| rw_q rfl (ev_fa (r := 2) uT63 rfl (by first | rfl | omega) ti35 rfl rfl) <| rw_n (or_store1 ti35 rfl rfl g10.one ((Mem.pick4 Hs10 [_] Hs7 [_] [_] _ hm10)).h0 (by simp) (.inl (Nat.zero_le _))) ?_
     rintro _ w11 uq11
     have hm11 : Mem w11 R ([(br, .cells #[vs, vl, sv10, vw] 63 (0, 0))] ++ (Hs10 ++ ([(b31, .cells (cl i64 ([n])) 3 (0, 0))] ++ (Hs7 ++ ([(b5, .cells (cl u8 b) 43 (0, 0))] ++ (Hl ++ (Hw ++ ([])))))))) := Mem.upd0 (Mem.pick4 Hs10 [_] Hs7 [_] [_] _ hm10) uq11
     refine rN (cw_seq ?_)
     refine cw_drawE (by kernel_rfl) ?_
     have hm12 := (Mem.pick5 [_] Hs10 [_] Hs7 [_] Hl _ hm11)
     have hm13 := (Mem.pick5 Hl [_] Hs10 [_] Hs7 [_] _ hm12)
     have hm14 := (Mem.pick5 [_] Hl [_] Hs10 [_] Hs7 _ hm13)
     have hm15 := (Mem.pick5 Hs7 [_] Hl [_] Hs10 [_] _ hm14)
     have hm16 := (Mem.pick5 [_] Hs7 [_] Hl [_] Hs10 _ hm15)
     have hm17 := (Mem.pick5 Hs10 [_] Hs7 [_] Hl [_] _ hm16)
     have hm18 := (Mem.pick6 [_] Hs10 [_] Hs7 [_] Hl Hw _ hm17)
     have hFM19 : Mem w11 R ((Hw ++ ([])) ++ ([(br, .cells #[vs, vl, sv10, vw] 63 (0, 0))] ++ (Hs10 ++ ([(b31, .cells (cl i64 ([n])) 3 (0, 0))] ++ (Hs7 ++ ([(b5, .cells (cl u8 b) 43 (0, 0))] ++ (Hl ++ ([])))))))) := (by
       have hT := hm18
       simp only [List.append_assoc, List.cons_append, List.nil_append, List.append_nil] at hT ⊢
       exact hT)
     obtain ⟨RM19, hRM19⟩ : ∃ R2, R2 = Rest.add R ([(br, .cells #[vs, vl, sv10, vw] 63 (0, 0))] ++ (Hs10 ++ ([(b31, .cells (cl i64 ([n])) 3 (0, 0))] ++ (Hs7 ++ ([(b5, .cells (cl u8 b) 43 (0, 0))] ++ (Hl ++ ([]))))))) := ⟨_, rfl⟩
     have M190 : Mem w11 RM19 (Hw ++ ([])) := by rw [hRM19]; exact Mem.give hFM19
     have hg20 : Rd RM19.blk i64 sv10 (la ++ ([n])) := g10.rdIn (fun p hp => by rw [hRM19]; exact Mem.addOwn hFM19 (List.mem_append_right _ (List.mem_append_left _ hp)))
     have ho21 : RM19.blk br = some (.cells #[vs, vl, sv10, vw] 63 (0, 0)) := by rw [hRM19]; exact Mem.addOwn hFM19 (List.mem_append_left _ (List.Mem.head _))
     have hg22 : RdK RM19.blk (encA u8) 64 vs (ss.set ((n : Int).toNat) b) := g7.rdIn (fun p hp => by rw [hRM19]; exact Mem.addOwn hFM19 (List.mem_append_right _ (List.mem_append_right _ (List.mem_append_right _ (List.mem_append_left _ hp)))))
     have hg23 : RdK RM19.blk (encA u8) 64 vl ll := gl.rdIn (fun p hp => by rw [hRM19]; exact Mem.addOwn hFM19 (List.mem_append_right _ (List.mem_append_right _ (List.mem_append_right _ (List.mem_append_right _ (List.mem_append_right _ (List.mem_append_left _ hp)))))))
     have ho24 : RM19.blk b31 = some (.cells (cl i64 ([n])) 3 (0, 0)) := by rw [hRM19]; exact Mem.addOwn hFM19 (List.mem_append_right _ (List.mem_append_right _ (List.mem_append_left _ (List.Mem.head _))))
     have ho25 : RM19.blk b5 = some (.cells (cl u8 b) 43 (0, 0)) := by rw [hRM19]; exact Mem.addOwn hFM19 (List.mem_append_right _ (List.mem_append_right _ (List.mem_append_right _ (List.mem_append_right _ (List.mem_append_left _ (List.Mem.head _))))))
     refine re_planM M190 [(0, false), (1, false), (2, false), (3, false), (4, false), (5, false), (6, true), (7, true)] 8 rfl (by kernel_rfl) <| dk_q rfl rfl (fun w _H _hx => ev_move s0) <| dk_q rfl rfl (fun w _H _hx => ev_move s0) <| dk_q rfl rfl (fun w _H _hx => ev_nilCheck rfl) <| dk_q rfl rfl (fun w _H _hx => ev_fa (r := 3) uT63 rfl (by first | rfl | omega) ti61 rfl rfl) <| dk_q (v := vw) rfl rfl (fun w _H _hx => ev_load1 uT61 rfl rfl (_hx.rest _ _ ho21) rfl) ?_
     refine dk_q (v := (agg u8 b)) rfl rfl (fun w _H _hx => ev_loadA uT43 rfl ti43 s5 (_hx.rest _ _ ho25) (by rw [size_cl]; first | omega | (simp only [List.length_set, List.length_append, List.length_replicate, List.length_map, List.length_cons, List.length_nil]; omega) | (simp; done) | (simp; omega) | decide)) ?_
     refine dk_c rfl rfl (fun w26 _ew26 => ?_)
     have hm26 := M190.ext _ew26
     refine OpR.mono (or_buildSlice_k1 (cs := (cl u8 b)) hm26 uT61 ti43 rfl rfl rfl (by rw [size_cl]; first | omega | (simp only [List.length_set, List.length_append, List.length_replicate, List.length_map, List.length_cons, List.length_nil]; omega) | (simp; done) | (simp; omega) | decide)) ?_
     rintro _ w27 ⟨b41, rfl, _ew27, hm27⟩
     have hm27 : Mem w27 RM19 ([(b41, .cells (cl u8 b) 43 (0, 0))] ++ (Hw ++ ([]))) := hm27
     refine ⟨⟨_, hm27⟩, ?_⟩
     refine dk_c rfl rfl (fun w28 _ew28 => ?_)
     have hm28 := hm27.ext _ew28
     refine OpR.mono (or_appendK (enc := (encA u8)) (k := 64) (Hs := Hw) (H := [(b41, .cells (cl u8 b) 43 (0, 0))]) (Mem.pick [_] Hw _ hm28) gw rfl rfl (RdK.ofOne (enc := (encA u8)) (k := 64) (a := b) hm28.h0 rfl (by simp only [encA, List.length_map]; first | omega | (simp only [List.length_set, List.length_append, List.length_replicate, List.length_map, List.length_cons, List.length_nil]; omega) | (simp; done) | (simp; omega) | decide)) uT61 uT61 ti43 rfl rfl (fun _ _ => encA_one u8_one _) sL sL) ?_
     rintro sv29 w29 ⟨Hs29, hm29, g29⟩
     replace g29 : GrowK (encA u8) 64 43 sv29 (lw ++ ([b])) Hs29 := g29
     refine ⟨⟨_, hm29⟩, ?_⟩
     refine dw_nil (fun w30 _ew30 => ?_)
     have hm30 := hm29.ext _ew30
     have hX31 := hm30
     rw [hRM19] at hX31
     have hm32 : Mem w30 R (Hs29 ++ ([(b41, .cells (cl u8 b) 43 (0, 0)), (br, .cells #[vs, vl, sv10, vw] 63 (0, 0))] ++ (Hs10 ++ ([(b31, .cells (cl i64 ([n])) 3 (0, 0))] ++ (Hs7 ++ ([(b5, .cells (cl u8 b) 43 (0, 0))] ++ (Hl ++ ([])))))))) := (by
       have hT := Mem.back hFM19 hX31
       simp only [List.append_assoc, List.cons_append, List.nil_append, List.append_nil] at hT ⊢
       exact hT)
     refine rw_q rfl (ev_nilCheck rfl) <| rw_q rfl (ev_fa (r := 3) uT63 rfl (by first | rfl | omega) ti61 rfl rfl) <| rw_n (or_store1 ti61 rfl rfl g29.one ((Mem.pick2 Hs29 [_] [_] _ hm32)).h0 (by simp) (.inl (Nat.zero_le _))) ?_
     rintro _ w33 uq33
     have hm33 : Mem w33 R ([(br, .cells #[vs, vl, sv10, sv29] 63 (0, 0))] ++ (Hs29 ++ ([(b41, .cells (cl u8 b) 43 (0, 0))] ++ (Hs10 ++ ([(b31, .cells (cl i64 ([n])) 3 (0, 0))] ++ (Hs7 ++ ([(b5, .cells (cl u8 b) 43 (0, 0))] ++ (Hl ++ ([]))))))))) := Mem.upd0 (Mem.pick2 Hs29 [_] [_] _ hm32) uq33
     refine rN ?_
     have hm34 := Mem.drop ([(b41, .cells (cl u8 b) 43 (0, 0))]) _ (Mem.pick2 [_] Hs29 [_] _ hm33)
     have hm35 := Mem.drop ([(b31, .cells (cl i64 ([n])) 3 (0, 0))]) _ (Mem.pick3 [_] Hs29 Hs10 [_] _ hm34)
     refine CW.abs (fun g => g 0 = (ptr br 0) ∧ g 1 = (i64 n) ∧ g 2 = (agg u8 b) ∧ g 5 = (ptr b5 0) ∧ g 6 = (i64 0) ∧ g 17 = (bl (decide ((ss.length : Int) ≤ n))) ∧ True) ⟨s0, s1, s2, s5, s6, s17, trivial⟩ ?_
     rintro fr36 ⟨s0, s1, s2, s5, s6, s17, _⟩
     refine sR <| rw_q rfl (ev_assign (v := (i64 0)) rfl) ?_
     refine rN (cw_ret ?_)
     refine fnPost_ret [(i64 0)] ⟨rfl, trivial⟩ ?_
     have hm37 := Mem.drop ([(b5, .cells (cl u8 b) 43 (0, 0))]) _ (Mem.pick4 [_] Hs29 Hs10 Hs7 [_] _ hm35)
     have hm38 := (Mem.pick [_] Hs29 _ hm37)
     have hm39 := (Mem.pick2 Hs29 [_] Hs10 _ hm38)
     have hm40 := (Mem.pick4 Hs10 Hs29 [_] Hs7 Hl _ hm39)
     have hm41 := (Mem.pick4 Hl Hs10 Hs29 [_] Hs7 _ hm40)
     have hm42 := (Mem.pick4 Hs7 Hl Hs10 Hs29 [_] _ hm41)
     have hin : inB ss n = true := inB_of oM oM
     exact ⟨Hs7, sv10, Hs10, sv29, Hs29, (by rw [err_ok hin]; rfl), GrowK.cast g7 (set_ok hin), Grow.cast g10 (add_ok hin), GrowK.cast g29 (add_ok hin), (by
       have hT := hm42
       simp only [List.append_assoc, List.cons_append, List.nil_append, List.append_nil] at hT ⊢
       exact hT)⟩

set_option maxHeartbeats 2000000 in
theorem c_rsync (br : Nat) (vs : Value) (ss : List (List (BitVec 8))) (Hs : List (Nat × Obj)) (vl : Value) (ll : List (List (BitVec 8))) (Hl : List (Nat × Obj)) (va : Value) (la : List Int) (Ha : List (Nat × Obj)) (vw : Value) (lw : List (List (BitVec 8))) (Hw : List (Nat × Obj)) (w0 : World) (R : Rest) (hm0 : Mem w0 R ([(br, .cells #[vs, vl, va, vw] 63 (0, 0))] ++ (Hs ++ (Hl ++ (Ha ++ (Hw ++ ([]))))))) (gs : GrowK (encA u8) 64 43 vs ss Hs) (gl : GrowK (encA u8) 64 43 vl ll Hl) (ga : Grow i64 3 va la Ha) (gw : GrowK (encA u8) 64 43 vw lw Hw) (hss : ss.length ≤ 65536) : CallsR Try.prog 33 #[(ptr br 0)] w0 (fun r w1 => ∃ Hs2 vl2 Hl2 va2 Ha2 vw2 Hw2, r = .tuple #[] ∧ GrowK (encA u8) 64 43 vs ss Hs2 ∧ GrowK (encA u8) 64 43 vl2 ss Hl2 ∧ Grow i64 3 va2 [] Ha2 ∧ GrowK (encA u8) 64 43 vw2 [] Hw2 ∧ Mem w1 R ([(br, .cells #[vs, vl2, va2, vw2] 63 (0, 0))] ++ (Hs2 ++ (Hl2 ++ (Ha2 ++ (Hw2 ++ ([]))))))) := by
 refine callsR_of_cw (args := [(ptr br 0)]) Try.func33 rfl Try.ntmps33 Try.results33 rfl <| sR <| rw_q rfl (ev_move (v := (ptr br 0)) rfl) <| rw_c rfl (or_buildSlice_p (c := #[]) hm0 uT61 ti43 rfl pm_nil (by kernel_rfl)) ?_
 rintro _ w1 ⟨b3, rfl, _ew1, hm1⟩
 have hm1 : Mem w1 R ([(b3, .cells #[] 43 (0, 0)), (br, .cells #[vs, vl, va, vw] 63 (0, 0))] ++ (Hs ++ (Hl ++ (Ha ++ (Hw ++ ([])))))) := hm1
 refine rw_q rfl (ev_move (v := (ptr br 0)) rfl) <| rw_q rfl (ev_nilCheck rfl) <| rw_q rfl (ev_fa (r := 0) uT63 rfl (by first | rfl | omega) ti61 rfl rfl) <| rw_q (v := vs) rfl (ev_load1 uT61 rfl rfl hm1.h1 rfl) <| rw_c rfl (or_appendK (enc := (encA u8)) (k := 64) (Hs := [(b3, .cells #[] 43 (0, 0))]) (H := [(br, .cells #[vs, vl, va, vw] 63 (0, 0))] ++ (Hs ++ (Hl ++ (Ha ++ (Hw ++ ([])))))) hm1 (GrowK.of (encA u8) 64 43 b3 [] rfl (by simp)) rfl rfl (gs.rd (Mem.pick [_, _] Hs _ hm1)) uT61 uT61 ti43 rfl rfl (fun _ _ => encA_one u8_one _) sL sL) ?_
 rintro sv2 w2 ⟨Hs2, hm2, g2⟩
 replace g2 : GrowK (encA u8) 64 43 sv2 ss Hs2 := g2
 refine rw_q rfl (ev_nilCheck rfl) <| rw_q rfl (ev_fa (r := 1) uT63 rfl (by first | rfl | omega) ti61 rfl rfl) <| rw_n (or_store1 ti61 rfl rfl g2.one ((Mem.pick Hs2 [_] _ hm2)).h0 (by simp) (.inl (Nat.zero_le _))) ?_
 rintro _ w3 uq3
 have hm3 : Mem w3 R ([(br, .cells #[vs, sv2, va, vw] 63 (0, 0))] ++ (Hs2 ++ (Hs ++ (Hl ++ (Ha ++ (Hw ++ ([]))))))) := Mem.upd0 (Mem.pick Hs2 [_] _ hm2) uq3
 refine rN (sR ?_)
 refine rw_q rfl (ev_move (v := (ptr br 0)) rfl) <| rw_c rfl (or_buildSlice_cl i64 [] i64_one hm3 uT35 ti3 rfl (by simp [pairs]) rfl) ?_
 rintro _ w4 ⟨b12, rfl, _ew4, hm4⟩
 refine rw_q rfl (ev_nilCheck rfl) <| rw_q rfl (ev_fa (r := 2) uT63 rfl (by first | rfl | omega) ti35 rfl rfl) <| rw_n (or_store1 ti35 rfl rfl rfl hm4.h1 (by simp) (.inl (Nat.zero_le _))) ?_
 rintro _ w5 uq5
 have hm5 : Mem w5 R ([(b12, .cells (cl i64 ([])) 3 (0, 0)), (br, .cells #[vs, sv2, (slc b12 0 0 0), vw] 63 (0, 0))] ++ (Hs2 ++ (Hs ++ (Hl ++ (Ha ++ (Hw ++ ([]))))))) := hm4.upd1 uq5
 refine rN (cw_region ?_)
 refine rw_q rfl (ev_move (v := (ptr br 0)) rfl) <| rw_c rfl (or_buildSlice_p (c := #[]) hm5 uT61 ti43 rfl pm_nil (by kernel_rfl)) ?_
 rintro _ w6 ⟨b16, rfl, _ew6, hm6⟩
 have hm6 : Mem w6 R ([(b16, .cells #[] 43 (0, 0)), (b12, .cells (cl i64 ([])) 3 (0, 0)), (br, .cells #[vs, sv2, (slc b12 0 0 0), vw] 63 (0, 0))] ++ (Hs2 ++ (Hs ++ (Hl ++ (Ha ++ (Hw ++ ([]))))))) := hm6
 refine rw_q rfl (ev_nilCheck rfl) <| rw_q rfl (ev_fa (r := 3) uT63 rfl (by first | rfl | omega) ti61 rfl rfl) <| rw_n (or_store1 ti61 rfl rfl rfl hm6.h2 (by simp) (.inl (Nat.zero_le _))) ?_
 rintro _ w7 uq7
 have hm7 : Mem w7 R ([(b16, .cells #[] 43 (0, 0)), (b12, .cells (cl i64 ([])) 3 (0, 0)), (br, .cells #[vs, sv2, (slc b12 0 0 0), (slc b16 0 0 0)] 63 (0, 0))] ++ (Hs2 ++ (Hs ++ (Hl ++ (Ha ++ (Hw ++ ([]))))))) := hm6.upd2 uq7
 refine rw_nil <| fnPost_normal [] trivial ?_
 have hm8 := Mem.drop Hl _ (Mem.pick3 [_, _, _] Hs2 Hs Hl _ hm7)
 have hm9 := Mem.drop Ha _ (Mem.pick3 [_, _, _] Hs2 Hs Ha _ hm8)
 have hm10 := Mem.drop Hw _ (Mem.pick3 [_, _, _] Hs2 Hs Hw _ hm9)
 have hm11 := (Mem.pick [_] [_] _ hm10)
 have hm12 := (Mem.pick [_, _, _] Hs2 _ hm11)
 have hm13 := (Mem.pick2 Hs2 [_, _, _] Hs _ hm12)
 have hm14 := (Mem.pick3 Hs Hs2 [_, _] [_] _ hm13)
 exact ⟨Hs, sv2, Hs2, (slc b12 0 0 0), [(b12, .cells (cl i64 ([])) 3 (0, 0))], (slc b16 0 0 0), [(b16, .cells #[] 43 (0, 0))], rfl, gs, GrowK.cast g2 (by simp), (Grow.of i64 3 b12 []), (GrowK.of (encA u8) 64 43 b16 [] rfl (by simp)), (by
   have hT := hm14
   simp only [List.append_assoc, List.cons_append, List.nil_append, List.append_nil] at hT ⊢
   exact hT)⟩


end Go.Proofs.Ytfmjfojhcmmgcaa
