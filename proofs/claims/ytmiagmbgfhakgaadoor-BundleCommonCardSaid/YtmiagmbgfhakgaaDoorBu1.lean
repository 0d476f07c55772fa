/- Contracts: bundles' bytes. Conditions: none beyond those that each theorem states. -/
import Derived.Test.YtmiagmbgfhakgaaDoorTab
import Derived.Test.YtmiagmbgfhakgaaDoorFwS
import Derived.Test.YtmiagmbgfhakgaaDoorCuP
namespace Go.Proofs.YtmiagmbgfhakgaaDoor
set_option linter.unusedVariables false
set_option linter.unusedSimpArgs false
def joinB (ps : List (Value × List (BitVec 8))) : List (BitVec 8) := ps.flatMap Prod.snd
def encB (id pk : List (BitVec 8)) : List (BitVec 8) := 1#8 :: (id ++ pk)
@[simp] theorem encB_length (id pk : List (BitVec 8)) : (encB id pk).length = 1 + (id.length + pk.length) := by simp [encB]; omega
set_option maxHeartbeats 1000000 in
theorem c_join3 (vp : Value) (ps : List (Value × List (BitVec 8))) (w0 : World)  (hrp : Rd (blks w0) Prod.fst vp ps) (hps : ∀ p ∈ ps, Rd (blks w0) u8 p.1 p.2) (h3 : ∃ va la vb lb vc lc, ps = [(va, la), (vb, lb), (vc, lc)] ∧ la.length = 1 ∧ lb.length = 32 ∧ lc.length = 32) : CallsR Tryd.prog 50 #[vp, (Value.slice none 0 0)] w0 (fun r w1 => ∃ Hs, Grow u8 5 r (joinB ps) Hs ∧ Mem w1 (restOf w0) Hs) := by
 refine callsR_of_cw (args := [vp, (Value.slice none 0 0)]) Tryd.func50 rfl Tryd.ntmps50 Tryd.results50 rfl ?_
 have hm0 : Mem w0 (restOf w0) [] := Mem.of_world w0
 obtain ⟨va, la, vb, lb, vc, lc, rfl, hla, hlb, hlc⟩ := h3
 have hva := hps (va, la) (by simp); have hvb := hps (vb, lb) (by simp); have hvc := hps (vc, lc) (by simp)
 have hva : Rd (blks w0) u8 va la := hva; have hvb : Rd (blks w0) u8 vb lb := hvb; have hvc : Rd (blks w0) u8 vc lc := hvc
 refine sR <| rw_q rfl (ev_assign (v := (Value.slice none 0 0)) rfl) ?_
 refine rN (cw_seq (sR ?_))
 refine rM rfl (v := vp) rfl <| rw_q (v := (i64 3)) rfl (ev_len_rd (l := [(va, la), (vb, lb), (vc, lc)]) (Rd.ofRest hrp hm0) uT71 rfl) <| rw_q rfl (ev_i64_eql (a := 3) (b := 0) rfl rfl) <| rN <| cw_cond_f rfl (by decide) ?_
 refine cw_skip (kThen_normal (cw_seq (sR ?_)))
 refine rM rfl (v := vp) rfl <| rw_q (v := (i64 3)) rfl (ev_len_rd (l := [(va, la), (vb, lb), (vc, lc)]) (Rd.ofRest hrp hm0) uT71 rfl) <| rw_q rfl (ev_i64_eql (a := 3) (b := 1) rfl rfl) <| rN <| cw_cond_f rfl (by decide) ?_
 refine cw_skip (kThen_normal (sR ?_))
 refine rw_q rfl (ev_assign (v := (i64 0)) rfl) ?_
 refine rN (cw_seq (sR ?_))
 refine rw_q rfl (ev_move (v := (Value.slice none 0 0)) rfl) <| rw_q (v := (i64 ((0 : Nat) : Int))) rfl (ev_len_sl uT26 rfl) <| rw_q rfl (ev_i64_gtr (b := 0) rfl rfl) <| rN ?_
 refine CW.abs (fun g => g 0 = vp ∧ g 1 = (Value.slice none 0 0) ∧ g 4 = (Value.slice none 0 0) ∧ g 5 = (i64 0) ∧ g 14 = (bl false) ∧ g 18 = (bl false) ∧ g 25 = (bl (decide (0 < ((0 : Nat) : Int)))) ∧ True) ⟨rfl, rfl, rfl, rfl, rfl, rfl, rfl, trivial⟩ ?_
 rintro fr1 ⟨s0, s1, s4, s5, s14, s18, s25, _⟩
 have hd2 : (decide (0 < ((0 : Nat) : Int))) = false := decide_eq_false oM
 refine cw_cond_f s25 hd2 ?_
 refine cw_skip (kThen_normal (cw_seq (sR ?_)))
 refine rM rfl s0 <| rw_q (v := (i64 3)) rfl (ev_len_rd (l := [(va, la), (vb, lb), (vc, lc)]) (Rd.ofRest hrp hm0) uT71 rfl) <| rw_q rfl (ev_move (v := (i64 0)) rfl) ?_
 refine rN (cw_block ?_)
 refine cw_rounds 4 ?_
 refine cr_succ (sR ?_)
 refine rw_q rfl (ev_i64_lss (a := 0) (b := 3) rfl rfl) ?_
 refine rN (cw_seq ?_)
 refine cw_cond_t rfl (by decide) ?_
 refine cw_skip (kThen_normal (cw_seq (cw_block (sR ?_))))
 refine rw_q rfl (ev_indexAddr_rdv (i := 0) (Rd.ofRest hrp hm0) uT71 ti26 rfl rfl oM (by simp)) <| rw_q (v := va) rfl (ev_load_rdD (l := [(va, la), (vb, lb), (vc, lc)]) (i := 0) (dflt := (undef, [])) (Rd.ofRest hrp hm0) uT26 rfl oM (by simp) rfl) <| rA rfl (v := va) rfl ?_
 refine rN (cw_seq (sR ?_))
 refine rM rfl (v := va) rfl <| rw_q (v := (i64 (la.length : Int))) rfl (ev_len_rd (Rd.ofRest hva hm0) uT26 rfl) <| rM rfl s5 <| rw_q (v := (i64 9223372036854775807)) rfl (ev_i64_sub (a := 9223372036854775807) (b := 0) rfl rfl oM oM) <| rw_q rfl (ev_i64_gtr (b := 9223372036854775807) rfl rfl) <| rN ?_
 refine CW.abs (fun g => g 0 = vp ∧ g 1 = (Value.slice none 0 0) ∧ g 4 = (Value.slice none 0 0) ∧ g 5 = (i64 0) ∧ g 7 = va ∧ g 14 = (bl false) ∧ g 18 = (bl false) ∧ g 25 = (bl (decide (0 < ((0 : Nat) : Int)))) ∧ g 42 = vp ∧ g 43 = (i64 3) ∧ g 44 = (i64 0) ∧ g 45 = (bl true) ∧ g 52 = (bl (decide (9223372036854775807 < (la.length : Int)))) ∧ True) ⟨s0, s1, s4, s5, rfl, s14, s18, s25, rfl, rfl, rfl, rfl, rfl, trivial⟩ ?_
 rintro fr3 ⟨s0, s1, s4, s5, s7, s14, s18, s25, s42, s43, s44, s45, s52, _⟩
 have hd4 : (decide (9223372036854775807 < (la.length : Int))) = false := decide_eq_false oM
 refine cw_cond_f s52 hd4 ?_
 refine cw_skip (kThen_normal (cw_region ?_))
 refine rM rfl s5 <| rM rfl s7 <| rw_q (v := (i64 (la.length : Int))) rfl (ev_len_rd (Rd.ofRest hva hm0) uT26 rfl) <| rw_q rfl (ev_i64_add (a := 0) rfl rfl oM oM) <| rw_q rfl (ev_assign (v := (i64 (0 + (la.length : Int)))) rfl) ?_
 refine rw_nil (kBlk_normal (cw_region ?_))
 refine rw_q (v := (i64 1)) rfl (ev_i64_add (a := 0) (b := 1) s44 rfl oM oM) <| rw_q rfl (ev_move (v := (i64 1)) rfl) ?_
 refine rN (cr_succ (sR ?_))
 refine rw_q rfl (ev_i64_lss (a := 1) (b := 3) rfl s43) ?_
 refine rN (cw_seq ?_)
 refine cw_cond_t rfl (by decide) ?_
 refine cw_skip (kThen_normal (cw_seq (cw_block (sR ?_))))
 refine rw_q rfl (ev_indexAddr_rdv (i := 1) (Rd.ofRest hrp hm0) uT71 ti26 s42 rfl oM (by simp)) <| rw_q (v := vb) rfl (ev_load_rdD (l := [(va, la), (vb, lb), (vc, lc)]) (i := 1) (dflt := (undef, [])) (Rd.ofRest hrp hm0) uT26 rfl oM (by simp) rfl) <| rA rfl (v := vb) rfl <| rN ?_
 refine CW.abs (fun g => g 0 = vp ∧ g 1 = (Value.slice none 0 0) ∧ g 4 = (Value.slice none 0 0) ∧ g 5 = (i64 (0 + (la.length : Int))) ∧ g 7 = vb ∧ g 14 = (bl false) ∧ g 18 = (bl false) ∧ g 25 = (bl (decide (0 < ((0 : Nat) : Int)))) ∧ g 42 = vp ∧ g 43 = (i64 3) ∧ g 44 = (i64 1) ∧ g 45 = (bl true) ∧ g 52 = (bl (decide (9223372036854775807 < (la.length : Int)))) ∧ True) ⟨s0, s1, s4, rfl, rfl, s14, s18, s25, s42, s43, rfl, rfl, s52, trivial⟩ ?_
 rintro fr5 ⟨s0, s1, s4, s5, s7, s14, s18, s25, s42, s43, s44, s45, s52, _⟩
 refine cw_seq (sR ?_)
 refine rM rfl s7 <| rw_q (v := (i64 (lb.length : Int))) rfl (ev_len_rd (Rd.ofRest hvb hm0) uT26 rfl) <| rM rfl s5 <| rw_q rfl (ev_i64_sub (a := 9223372036854775807) rfl rfl oM oM) <| rw_q rfl (ev_i64_gtr rfl rfl) <| rN ?_
 have hd6 : (decide ((9223372036854775807 - (0 + (la.length : Int))) < (lb.length : Int))) = false := decide_eq_false oM
 refine cw_cond_f rfl hd6 ?_
 refine cw_skip (kThen_normal (cw_region ?_))
 refine rM rfl s5 <| rM rfl s7 <| rw_q (v := (i64 (lb.length : Int))) rfl (ev_len_rd (Rd.ofRest hvb hm0) uT26 rfl) <| rw_q rfl (ev_i64_add rfl rfl oM oM) <| rw_q rfl (ev_assign (v := (i64 ((0 + (la.length : Int)) + (lb.length : Int)))) rfl) ?_
 refine rw_nil (kBlk_normal (cw_region ?_))
 refine rw_q (v := (i64 2)) rfl (ev_i64_add (a := 1) (b := 1) s44 rfl oM oM) <| rw_q rfl (ev_move (v := (i64 2)) rfl) <| rN ?_
 refine CR.abs (fun g => g 0 = vp ∧ g 1 = (Value.slice none 0 0) ∧ g 4 = (Value.slice none 0 0) ∧ g 5 = (i64 ((0 + (la.length : Int)) + (lb.length : Int))) ∧ g 7 = vb ∧ g 14 = (bl false) ∧ g 18 = (bl false) ∧ g 25 = (bl (decide (0 < ((0 : Nat) : Int)))) ∧ g 42 = vp ∧ g 43 = (i64 3) ∧ g 44 = (i64 2) ∧ g 45 = (bl true) ∧ g 52 = (bl (decide ((9223372036854775807 - (0 + (la.length : Int))) < (lb.length : Int)))) ∧ True) ⟨s0, s1, s4, rfl, s7, s14, s18, s25, s42, s43, rfl, s45, rfl, trivial⟩ ?_
 rintro fr7 ⟨s0, s1, s4, s5, s7, s14, s18, s25, s42, s43, s44, s45, s52, _⟩
 refine cr_succ (sR ?_)
 refine rw_q rfl (ev_i64_lss (a := 2) (b := 3) s44 s43) ?_
 refine rN (cw_seq ?_)
 refine cw_cond_t rfl (by decide) ?_
 refine cw_skip (kThen_normal (cw_seq (cw_block (sR ?_))))
 refine rw_q rfl (ev_indexAddr_rdv (i := 2) (Rd.ofRest hrp hm0) uT71 ti26 s42 s44 oM (by simp)) <| rw_q (v := vc) rfl (ev_load_rdD (l := [(va, la), (vb, lb), (vc, lc)]) (i := 2) (dflt := (undef, [])) (Rd.ofRest hrp hm0) uT26 rfl oM (by simp) rfl) <| rA rfl (v := vc) rfl ?_
 refine rN (cw_seq (sR ?_))
 refine rM rfl (v := vc) rfl <| rw_q (v := (i64 (lc.length : Int))) rfl (ev_len_rd (Rd.ofRest hvc hm0) uT26 rfl) <| rM rfl s5 <| rw_q rfl (ev_i64_sub (a := 9223372036854775807) rfl rfl oM oM) <| rw_q rfl (ev_i64_gtr rfl rfl) <| rN ?_
 have hd8 : (decide ((9223372036854775807 - ((0 + (la.length : Int)) + (lb.length : Int))) < (lc.length : Int))) = false := decide_eq_false oM
 refine cw_cond_f rfl hd8 ?_
 refine cw_skip (kThen_normal (cw_region ?_))
 refine rM rfl s5 <| rM rfl (v := vc) rfl <| rw_q (v := (i64 (lc.length : Int))) rfl (ev_len_rd (Rd.ofRest hvc hm0) uT26 rfl) <| rw_q rfl (ev_i64_add rfl rfl oM oM) <| rw_q rfl (ev_assign (v := (i64 (((0 + (la.length : Int)) + (lb.length : Int)) + (lc.length : Int)))) rfl) ?_
 refine rw_nil (kBlk_normal ?_)
 refine CW.abs (fun g => g 0 = vp ∧ g 1 = (Value.slice none 0 0) ∧ g 4 = (Value.slice none 0 0) ∧ g 5 = (i64 (((0 + (la.length : Int)) + (lb.length : Int)) + (lc.length : Int))) ∧ g 7 = vc ∧ g 14 = (bl false) ∧ g 18 = (bl false) ∧ g 25 = (bl (decide (0 < ((0 : Nat) : Int)))) ∧ g 42 = vp ∧ g 43 = (i64 3) ∧ g 44 = (i64 2) ∧ g 45 = (bl true) ∧ g 52 = (bl (decide ((9223372036854775807 - ((0 + (la.length : Int)) + (lb.length : Int))) < (lc.length : Int)))) ∧ True) ⟨s0, s1, s4, rfl, rfl, s14, s18, s25, s42, s43, s44, rfl, rfl, trivial⟩ ?_
 rintro fr9 ⟨s0, s1, s4, s5, s7, s14, s18, s25, s42, s43, s44, s45, s52, _⟩
 refine cw_region <| rw_q (v := (i64 3)) rfl (ev_i64_add (a := 2) (b := 1) s44 rfl oM oM) <| rw_q rfl (ev_move (v := (i64 3)) rfl) ?_
 refine rN (cr_succ (sR ?_))
 refine rw_q rfl (ev_i64_lss (a := 3) (b := 3) rfl s43) ?_
 refine rN (cw_seq ?_)
 refine cw_cond_f rfl (by decide) <| cw_exit ?_
 refine kThen_exit (kThen_exit (kBlk_hit ?_))
 refine sR <| rM rfl s5 <| rw_c rfl (or_noZero (ps := #[3]) (n := (((0 + (la.length : Int)) + (lb.length : Int)) + (lc.length : Int) : Int).toNat) hm0 Tryd.func69 (by kernel_rfl) (by kernel_rfl) (by kernel_rfl) (by kernel_rfl) uT26 rfl oM oM) ?_
 rintro sv10 w10 ⟨mz10, Hs10, hlmz10, g10, hm10⟩
 refine rM rfl s5 <| rM rfl s5 <| rw_q rfl (ev_slice3_rd (j := ((0 + (la.length : Int)) + (lb.length : Int)) + (lc.length : Int)) (g10.rd hm10) uT26 ti5 rfl rfl rfl oM sD) <| rA rfl rfl ?_
 refine rN (sR ?_)
 refine rM rfl rfl <| rM rfl s0 <| rw_q rfl (ev_indexAddr_rdv (i := 0) (Rd.ofRest hrp hm10) uT71 ti26 rfl rfl oM (by simp)) <| rw_q (v := va) rfl (ev_load_rdD (l := [(va, la), (vb, lb), (vc, lc)]) (i := 0) (dflt := (undef, [])) (Rd.ofRest hrp hm10) uT26 rfl oM (by simp) rfl) <| rw_c rfl (or_copy_grow (f := u8) (d := ([] : List (BitVec 8))) (base := mz10.take (((0 + (la.length : Int)) + (lb.length : Int)) + (lc.length : Int) : Int).toNat) (ms := la) (i := 0) (j := ((mz10.take (((0 + (la.length : Int)) + (lb.length : Int)) + (lc.length : Int) : Int).toNat).length : Int)) (q := (la.length : Int)) (Hs := Hs10) (H := []) hm10 (Grow.cast (l' := ([] : List (BitVec 8)) ++ (mz10.take (((0 + (la.length : Int)) + (lb.length : Int)) + (lc.length : Int) : Int).toNat).drop ([] : List (BitVec 8)).length) (Grow.cut (j := ((0 + (la.length : Int)) + (lb.length : Int)) + (lc.length : Int)) g10 oM sD) (by simp)) (Eq.trans rfl (subv0 (Grow.cut (j := ((0 + (la.length : Int)) + (lb.length : Int)) + (lc.length : Int)) g10 oM sD) (by first | rfl | omega | (simp; done) | (simp; omega) | (simp only [List.length_append, List.length_take, List.length_drop, List.length_nil] at *; omega)))) (by first | rfl | omega | (simp; done) | (simp; omega) | (simp only [List.length_append, List.length_take, List.length_drop, List.length_nil] at *; omega)) (by first | rfl | omega | (simp; done) | (simp; omega) | (simp only [List.length_append, List.length_take, List.length_drop, List.length_nil] at *; omega)) rfl (Rd.ofRest hva hm10) uT26 ti5 u8_one (by first | rfl | omega | (simp; done) | (simp; omega) | (simp only [List.length_append, List.length_take, List.length_drop, List.length_nil] at *; omega)) (by first | rfl | omega | (simp; done) | (simp; omega) | (simp only [List.length_append, List.length_take, List.length_drop, List.length_nil] at *; omega)) rfl) ?_
 rintro _ w11 ⟨rfl, Hs11, g11, hm11⟩
 replace g11 : Grow u8 5 (sub3v sv10 0 (((0 + (la.length : Int)) + (lb.length : Int)) + (lc.length : Int)) (((0 + (la.length : Int)) + (lb.length : Int)) + (lc.length : Int))) (la ++ (mz10.take (((0 + (la.length : Int)) + (lb.length : Int)) + (lc.length : Int) : Int).toNat).drop la.length) Hs11 := Grow.cast g11 (by first | rfl | simp)
 refine rw_q rfl (ev_assign (v := (i64 (la.length : Int))) rfl) <| rN ?_
 refine CW.abs (fun g => g 0 = vp ∧ g 1 = (Value.slice none 0 0) ∧ g 4 = (Value.slice none 0 0) ∧ g 5 = (i64 (((0 + (la.length : Int)) + (lb.length : Int)) + (lc.length : Int))) ∧ g 7 = vc ∧ g 8 = (sub3v sv10 0 (((0 + (la.length : Int)) + (lb.length : Int)) + (lc.length : Int)) (((0 + (la.length : Int)) + (lb.length : Int)) + (lc.length : Int))) ∧ g 9 = (i64 (la.length : Int)) ∧ g 14 = (bl false) ∧ g 18 = (bl false) ∧ g 25 = (bl (decide (0 < ((0 : Nat) : Int)))) ∧ g 42 = vp ∧ g 43 = (i64 3) ∧ g 44 = (i64 3) ∧ g 45 = (bl false) ∧ g 52 = (bl (decide ((9223372036854775807 - ((0 + (la.length : Int)) + (lb.length : Int))) < (lc.length : Int)))) ∧ True) ⟨s0, s1, s4, s5, s7, rfl, rfl, s14, s18, s25, s42, s43, rfl, rfl, s52, trivial⟩ ?_
 rintro fr12 ⟨s0, s1, s4, s5, s7, s8, s9, s14, s18, s25, s42, s43, s44, s45, s52, _⟩
 refine cw_seq (sR ?_)
 refine rM rfl s0 <| rw_q rfl (ev_slice_rd (i := 1) (j := (([(va, la), (vb, lb), (vc, lc)]).length : Int)) (Rd.ofRest hrp hm11) uT71 ti26 rfl (optI_some (k := .i64) (i := 1) rfl) (optI_none _ _) oM sD sD) <| rw_q (v := (i64 2)) rfl (ev_len_rd (l := [(vb, lb), (vc, lc)]) (Rd.cast (l' := [(vb, lb), (vc, lc)]) (Rd.sub (Rd.ofRest hrp hm11) oM sD sD) rfl) uT71 rfl) <| rw_q rfl (ev_move (v := (i64 0)) rfl) ?_
 refine rN (cw_block ?_)
 refine cw_rounds 3 ?_
 refine cr_succ (sR ?_)
 refine rw_q rfl (ev_i64_lss (a := 0) (b := 2) rfl rfl) ?_
 refine rN (cw_seq ?_)
 refine cw_cond_t rfl (by decide) ?_
 refine cw_skip (kThen_normal (cw_seq (cw_block (sR ?_))))
 refine rw_q rfl (ev_indexAddr_rdv (i := 0) (Rd.cast (l' := [(vb, lb), (vc, lc)]) (Rd.sub (Rd.ofRest hrp hm11) oM sD sD) rfl) uT71 ti26 rfl rfl oM (by simp)) <| rw_q (v := vb) rfl (ev_load_rdD (l := [(vb, lb), (vc, lc)]) (i := 0) (dflt := (undef, [])) (Rd.cast (l' := [(vb, lb), (vc, lc)]) (Rd.sub (Rd.ofRest hrp hm11) oM sD sD) rfl) uT26 rfl oM (by simp) rfl) <| rA rfl (v := vb) rfl ?_
 refine rN (sR ?_)
 refine rM rfl s9 <| rM rfl s8 <| rM rfl s9 <| rw_q rfl (ev_slice_rd (i := (la.length : Int)) (j := ((la ++ (mz10.take (((0 + (la.length : Int)) + (lb.length : Int)) + (lc.length : Int) : Int).toNat).drop la.length).length : Int)) (g11.rd hm11) uT26 ti5 rfl (optI_some (k := .i64) (i := (la.length : Int)) rfl) (optI_none _ _) oM sD sD) <| rM rfl s1 <| rw_c rfl (or_copy_grow (f := u8) (d := la) (base := mz10.take (((0 + (la.length : Int)) + (lb.length : Int)) + (lc.length : Int) : Int).toNat) (ms := []) (i := (la.length : Int)) (j := ((la ++ (mz10.take (((0 + (la.length : Int)) + (lb.length : Int)) + (lc.length : Int) : Int).toNat).drop la.length).length : Int)) (q := 0) (Hs := Hs11) (H := []) hm11 g11 rfl (by first | rfl | omega | (simp; done) | (simp; omega) | (simp only [List.length_append, List.length_take, List.length_drop, List.length_nil] at *; omega)) (by first | rfl | omega | (simp; done) | (simp; omega) | (simp only [List.length_append, List.length_take, List.length_drop, List.length_nil] at *; omega)) rfl (Rd.nil _ _) uT26 ti5 u8_one (by first | rfl | omega | (simp; done) | (simp; omega) | (simp only [List.length_append, List.length_take, List.length_drop, List.length_nil] at *; omega)) (by first | rfl | omega | (simp; done) | (simp; omega) | (simp only [List.length_append, List.length_take, List.length_drop, List.length_nil] at *; omega)) rfl) ?_
 rintro _ w13 ⟨rfl, Hs13, g13, hm13⟩
 replace g13 : Grow u8 5 (sub3v sv10 0 (((0 + (la.length : Int)) + (lb.length : Int)) + (lc.length : Int)) (((0 + (la.length : Int)) + (lb.length : Int)) + (lc.length : Int))) (la ++ (mz10.take (((0 + (la.length : Int)) + (lb.length : Int)) + (lc.length : Int) : Int).toNat).drop la.length) Hs13 := Grow.cast g13 (by first | rfl | simp)
 refine rw_q rfl (ev_i64_add (b := 0) rfl rfl oM oM) <| rw_q rfl (ev_assign (v := (i64 ((la.length : Int) + 0))) rfl) <| rN ?_
 refine CW.abs (fun g => g 0 = vp ∧ g 1 = (Value.slice none 0 0) ∧ g 4 = (Value.slice none 0 0) ∧ g 5 = (i64 (((0 + (la.length : Int)) + (lb.length : Int)) + (lc.length : Int))) ∧ g 7 = vc ∧ g 8 = (sub3v sv10 0 (((0 + (la.length : Int)) + (lb.length : Int)) + (lc.length : Int)) (((0 + (la.length : Int)) + (lb.length : Int)) + (lc.length : Int))) ∧ g 9 = (i64 ((la.length : Int) + 0)) ∧ g 11 = vb ∧ g 14 = (bl false) ∧ g 18 = (bl false) ∧ g 25 = (bl (decide (0 < ((0 : Nat) : Int)))) ∧ g 42 = vp ∧ g 43 = (i64 3) ∧ g 44 = (i64 3) ∧ g 45 = (bl false) ∧ g 52 = (bl (decide ((9223372036854775807 - ((0 + (la.length : Int)) + (lb.length : Int))) < (lc.length : Int)))) ∧ g 70 = (subv vp 1 (([(va, la), (vb, lb), (vc, lc)]).length : Int)) ∧ g 71 = (i64 2) ∧ g 72 = (i64 0) ∧ g 73 = (bl true) ∧ True) ⟨s0, s1, s4, s5, s7, s8, rfl, rfl, s14, s18, s25, s42, s43, s44, s45, s52, rfl, rfl, rfl, rfl, trivial⟩ ?_
 rintro fr14 ⟨s0, s1, s4, s5, s7, s8, s9, s11, s14, s18, s25, s42, s43, s44, s45, s52, s70, s71, s72, s73, _⟩
 refine cw_region <| rM rfl s9 <| rM rfl s8 <| rM rfl s9 <| rw_q rfl (ev_slice_rd (i := (la.length : Int) + 0) (j := ((la ++ (mz10.take (((0 + (la.length : Int)) + (lb.length : Int)) + (lc.length : Int) : Int).toNat).drop la.length).length : Int)) (g13.rd hm13) uT26 ti5 rfl (optI_some (k := .i64) (i := (la.length : Int) + 0) rfl) (optI_none _ _) oM sD sD) <| rM rfl s11 ?_
 refine rw_c rfl (or_copy_grow (f := u8) (d := la) (base := mz10.take (((0 + (la.length : Int)) + (lb.length : Int)) + (lc.length : Int) : Int).toNat) (ms := lb) (i := (la.length : Int) + 0) (j := ((la ++ (mz10.take (((0 + (la.length : Int)) + (lb.length : Int)) + (lc.length : Int) : Int).toNat).drop la.length).length : Int)) (q := (lb.length : Int)) (Hs := Hs13) (H := []) hm13 g13 rfl (by first | rfl | omega | (simp; done) | (simp; omega) | (simp only [List.length_append, List.length_take, List.length_drop, List.length_nil] at *; omega)) (by first | rfl | omega | (simp; done) | (simp; omega) | (simp only [List.length_append, List.length_take, List.length_drop, List.length_nil] at *; omega)) rfl (Rd.ofRest hvb hm13) uT26 ti5 u8_one (by first | rfl | omega | (simp; done) | (simp; omega) | (simp only [List.length_append, List.length_take, List.length_drop, List.length_nil] at *; omega)) (by first | rfl | omega | (simp; done) | (simp; omega) | (simp only [List.length_append, List.length_take, List.length_drop, List.length_nil] at *; omega)) rfl) ?_
 rintro _ w15 ⟨rfl, Hs15, g15, hm15⟩
 replace g15 : Grow u8 5 (sub3v sv10 0 (((0 + (la.length : Int)) + (lb.length : Int)) + (lc.length : Int)) (((0 + (la.length : Int)) + (lb.length : Int)) + (lc.length : Int))) ((la ++ lb) ++ (mz10.take (((0 + (la.length : Int)) + (lb.length : Int)) + (lc.length : Int) : Int).toNat).drop (la ++ lb).length) Hs15 := Grow.cast g15 (by first | rfl | simp)
 refine rw_q rfl (ev_i64_add rfl rfl oM oM) <| rw_q rfl (ev_assign (v := (i64 (((la.length : Int) + 0) + (lb.length : Int)))) rfl) ?_
 refine rw_nil (kBlk_normal (cw_region ?_))
 refine rw_q (v := (i64 1)) rfl (ev_i64_add (a := 0) (b := 1) s72 rfl oM oM) <| rw_q rfl (ev_move (v := (i64 1)) rfl) ?_
 refine rN (cr_succ (sR ?_))
 refine rw_q rfl (ev_i64_lss (a := 1) (b := 2) rfl s71) <| rN ?_
 refine CW.abs (fun g => g 0 = vp ∧ g 1 = (Value.slice none 0 0) ∧ g 4 = (Value.slice none 0 0) ∧ g 5 = (i64 (((0 + (la.length : Int)) + (lb.length : Int)) + (lc.length : Int))) ∧ g 7 = vc ∧ g 8 = (sub3v sv10 0 (((0 + (la.length : Int)) + (lb.length : Int)) + (lc.length : Int)) (((0 + (la.length : Int)) + (lb.length : Int)) + (lc.length : Int))) ∧ g 9 = (i64 (((la.length : Int) + 0) + (lb.length : Int))) ∧ g 11 = vb ∧ g 14 = (bl false) ∧ g 18 = (bl false) ∧ g 25 = (bl (decide (0 < ((0 : Nat) : Int)))) ∧ g 42 = vp ∧ g 43 = (i64 3) ∧ g 44 = (i64 3) ∧ g 45 = (bl false) ∧ g 52 = (bl (decide ((9223372036854775807 - ((0 + (la.length : Int)) + (lb.length : Int))) < (lc.length : Int)))) ∧ g 70 = (subv vp 1 (([(va, la), (vb, lb), (vc, lc)]).length : Int)) ∧ g 71 = (i64 2) ∧ g 72 = (i64 1) ∧ g 73 = (bl true) ∧ True) ⟨s0, s1, s4, s5, s7, s8, rfl, s11, s14, s18, s25, s42, s43, s44, s45, s52, s70, s71, rfl, rfl, trivial⟩ ?_
 rintro fr16 ⟨s0, s1, s4, s5, s7, s8, s9, s11, s14, s18, s25, s42, s43, s44, s45, s52, s70, s71, s72, s73, _⟩
 refine cw_seq <| cw_cond_t s73 (by decide) ?_
 refine cw_skip (kThen_normal (cw_seq (cw_block (sR ?_))))
 refine rw_q rfl (ev_indexAddr_rdv (i := 1) (Rd.cast (l' := [(vb, lb), (vc, lc)]) (Rd.sub (Rd.ofRest hrp hm15) oM sD sD) rfl) uT71 ti26 s70 s72 oM (by simp)) <| rw_q (v := vc) rfl (ev_load_rdD (l := [(vb, lb), (vc, lc)]) (i := 1) (dflt := (undef, [])) (Rd.cast (l' := [(vb, lb), (vc, lc)]) (Rd.sub (Rd.ofRest hrp hm15) oM sD sD) rfl) uT26 rfl oM (by simp) rfl) <| rA rfl (v := vc) rfl ?_
 refine rN (sR ?_)
 refine rM rfl s9 <| rM rfl s8 <| rM rfl s9 <| rw_q rfl (ev_slice_rd (i := ((la.length : Int) + 0) + (lb.length : Int)) (j := (((la ++ lb) ++ (mz10.take (((0 + (la.length : Int)) + (lb.length : Int)) + (lc.length : Int) : Int).toNat).drop (la ++ lb).length).length : Int)) (g15.rd hm15) uT26 ti5 rfl (optI_some (k := .i64) (i := ((la.length : Int) + 0) + (lb.length : Int)) rfl) (optI_none _ _) oM sD sD) <| rM rfl s1 <| rw_c rfl (or_copy_grow (f := u8) (d := la ++ lb) (base := mz10.take (((0 + (la.length : Int)) + (lb.length : Int)) + (lc.length : Int) : Int).toNat) (ms := []) (i := ((la.length : Int) + 0) + (lb.length : Int)) (j := (((la ++ lb) ++ (mz10.take (((0 + (la.length : Int)) + (lb.length : Int)) + (lc.length : Int) : Int).toNat).drop (la ++ lb).length).length : Int)) (q := 0) (Hs := Hs15) (H := []) hm15 g15 rfl (by first | rfl | omega | (simp; done) | (simp; omega) | (simp only [List.length_append, List.length_take, List.length_drop, List.length_nil] at *; omega)) (by first | rfl | omega | (simp; done) | (simp; omega) | (simp only [List.length_append, List.length_take, List.length_drop, List.length_nil] at *; omega)) rfl (Rd.nil _ _) uT26 ti5 u8_one (by first | rfl | omega | (simp; done) | (simp; omega) | (simp only [List.length_append, List.length_take, List.length_drop, List.length_nil] at *; omega)) (by first | rfl | omega | (simp; done) | (simp; omega) | (simp only [List.length_append, List.length_take, List.length_drop, List.length_nil] at *; omega)) rfl) ?_
 rintro _ w17 ⟨rfl, Hs17, g17, hm17⟩
 replace g17 : Grow u8 5 (sub3v sv10 0 (((0 + (la.length : Int)) + (lb.length : Int)) + (lc.length : Int)) (((0 + (la.length : Int)) + (lb.length : Int)) + (lc.length : Int))) ((la ++ lb) ++ (mz10.take (((0 + (la.length : Int)) + (lb.length : Int)) + (lc.length : Int) : Int).toNat).drop (la ++ lb).length) Hs17 := Grow.cast g17 (by first | rfl | simp)
 refine rw_q rfl (ev_i64_add (b := 0) rfl rfl oM oM) <| rw_q rfl (ev_assign (v := (i64 ((((la.length : Int) + 0) + (lb.length : Int)) + 0))) rfl) <| rN ?_
 refine CW.abs (fun g => g 0 = vp ∧ g 1 = (Value.slice none 0 0) ∧ g 4 = (Value.slice none 0 0) ∧ g 5 = (i64 (((0 + (la.length : Int)) + (lb.length : Int)) + (lc.length : Int))) ∧ g 7 = vc ∧ g 8 = (sub3v sv10 0 (((0 + (la.length : Int)) + (lb.length : Int)) + (lc.length : Int)) (((0 + (la.length : Int)) + (lb.length : Int)) + (lc.length : Int))) ∧ g 9 = (i64 ((((la.length : Int) + 0) + (lb.length : Int)) + 0)) ∧ g 11 = vc ∧ g 14 = (bl false) ∧ g 18 = (bl false) ∧ g 25 = (bl (decide (0 < ((0 : Nat) : Int)))) ∧ g 42 = vp ∧ g 43 = (i64 3) ∧ g 44 = (i64 3) ∧ g 45 = (bl false) ∧ g 52 = (bl (decide ((9223372036854775807 - ((0 + (la.length : Int)) + (lb.length : Int))) < (lc.length : Int)))) ∧ g 70 = (subv vp 1 (([(va, la), (vb, lb), (vc, lc)]).length : Int)) ∧ g 71 = (i64 2) ∧ g 72 = (i64 1) ∧ g 73 = (bl true) ∧ True) ⟨s0, s1, s4, s5, s7, s8, rfl, rfl, s14, s18, s25, s42, s43, s44, s45, s52, s70, s71, s72, s73, trivial⟩ ?_
 rintro fr18 ⟨s0, s1, s4, s5, s7, s8, s9, s11, s14, s18, s25, s42, s43, s44, s45, s52, s70, s71, s72, s73, _⟩
 refine cw_region <| rM rfl s9 <| rM rfl s8 <| rM rfl s9 <| rw_q rfl (ev_slice_rd (i := (((la.length : Int) + 0) + (lb.length : Int)) + 0) (j := (((la ++ lb) ++ (mz10.take (((0 + (la.length : Int)) + (lb.length : Int)) + (lc.length : Int) : Int).toNat).drop (la ++ lb).length).length : Int)) (g17.rd hm17) uT26 ti5 rfl (optI_some (k := .i64) (i := (((la.length : Int) + 0) + (lb.length : Int)) + 0) rfl) (optI_none _ _) oM sD sD) <| rM rfl s11 ?_
 refine rw_c rfl (or_copy_grow (f := u8) (d := la ++ lb) (base := mz10.take (((0 + (la.length : Int)) + (lb.length : Int)) + (lc.length : Int) : Int).toNat) (ms := lc) (i := (((la.length : Int) + 0) + (lb.length : Int)) + 0) (j := (((la ++ lb) ++ (mz10.take (((0 + (la.length : Int)) + (lb.length : Int)) + (lc.length : Int) : Int).toNat).drop (la ++ lb).length).length : Int)) (q := (lc.length : Int)) (Hs := Hs17) (H := []) hm17 g17 rfl (by first | rfl | omega | (simp; done) | (simp; omega) | (simp only [List.length_append, List.length_take, List.length_drop, List.length_nil] at *; omega)) (by first | rfl | omega | (simp; done) | (simp; omega) | (simp only [List.length_append, List.length_take, List.length_drop, List.length_nil] at *; omega)) rfl (Rd.ofRest hvc hm17) uT26 ti5 u8_one (by first | rfl | omega | (simp; done) | (simp; omega) | (simp only [List.length_append, List.length_take, List.length_drop, List.length_nil] at *; omega)) (by first | rfl | omega | (simp; done) | (simp; omega) | (simp only [List.length_append, List.length_take, List.length_drop, List.length_nil] at *; omega)) rfl) ?_
 rintro _ w19 ⟨rfl, Hs19, g19, hm19⟩
 replace g19 : Grow u8 5 (sub3v sv10 0 (((0 + (la.length : Int)) + (lb.length : Int)) + (lc.length : Int)) (((0 + (la.length : Int)) + (lb.length : Int)) + (lc.length : Int))) ((la ++ lb ++ lc) ++ (mz10.take (((0 + (la.length : Int)) + (lb.length : Int)) + (lc.length : Int) : Int).toNat).drop (la ++ lb ++ lc).length) Hs19 := Grow.cast g19 (by first | rfl | simp)
 refine rw_q rfl (ev_i64_add rfl rfl oM oM) <| rw_q rfl (ev_assign (v := (i64 (((((la.length : Int) + 0) + (lb.length : Int)) + 0) + (lc.length : Int)))) rfl) ?_
 refine rw_nil (kBlk_normal (cw_region ?_))
 refine rw_q (v := (i64 2)) rfl (ev_i64_add (a := 1) (b := 1) s72 rfl oM oM) <| rw_q rfl (ev_move (v := (i64 2)) rfl) ?_
 refine rN (cr_succ (sR ?_))
 refine rw_q rfl (ev_i64_lss (a := 2) (b := 2) rfl s71) <| rN ?_
 refine CW.abs (fun g => g 0 = vp ∧ g 1 = (Value.slice none 0 0) ∧ g 4 = (Value.slice none 0 0) ∧ g 5 = (i64 (((0 + (la.length : Int)) + (lb.length : Int)) + (lc.length : Int))) ∧ g 7 = vc ∧ g 8 = (sub3v sv10 0 (((0 + (la.length : Int)) + (lb.length : Int)) + (lc.length : Int)) (((0 + (la.length : Int)) + (lb.length : Int)) + (lc.length : Int))) ∧ g 9 = (i64 (((((la.length : Int) + 0) + (lb.length : Int)) + 0) + (lc.length : Int))) ∧ g 11 = vc ∧ g 14 = (bl false) ∧ g 18 = (bl false) ∧ g 25 = (bl (decide (0 < ((0 : Nat) : Int)))) ∧ g 42 = vp ∧ g 43 = (i64 3) ∧ g 44 = (i64 3) ∧ g 45 = (bl false) ∧ g 52 = (bl (decide ((9223372036854775807 - ((0 + (la.length : Int)) + (lb.length : Int))) < (lc.length : Int)))) ∧ g 70 = (subv vp 1 (([(va, la), (vb, lb), (vc, lc)]).length : Int)) ∧ g 71 = (i64 2) ∧ g 72 = (i64 2) ∧ g 73 = (bl false) ∧ True) ⟨s0, s1, s4, s5, s7, s8, rfl, s11, s14, s18, s25, s42, s43, s44, s45, s52, s70, s71, rfl, rfl, trivial⟩ ?_
 rintro fr20 ⟨s0, s1, s4, s5, s7, s8, s9, s11, s14, s18, s25, s42, s43, s44, s45, s52, s70, s71, s72, s73, _⟩
 refine cw_seq <| cw_cond_f s73 (by decide) <| cw_exit ?_
 refine kThen_exit (kThen_exit (kBlk_hit ?_))
 refine sR <| rM rfl s8 <| rA rfl rfl ?_
 refine rN (cw_ret ?_)
 refine fnPost_ret [(sub3v sv10 0 (((0 + (la.length : Int)) + (lb.length : Int)) + (lc.length : Int)) (((0 + (la.length : Int)) + (lb.length : Int)) + (lc.length : Int)))] ⟨rfl, trivial⟩ ?_
 exact ⟨Hs19, Grow.cast g19 (by rw [List.drop_of_length_le (by simp; omega)]; simp [joinB]), by simpa using hm19⟩

set_option maxHeartbeats 1000000 in
theorem c_bencode (id pk : List (BitVec 8)) (w0 : World)  (hid : id.length = 32) (hpk : pk.length = 32) : CallsR Tryd.prog 33 #[(Value.agg (segs [id.map u8, pk.map u8]))] w0 (fun r w1 => ∃ Hs, Grow u8 5 r (encB id pk) Hs ∧ Mem w1 (restOf w0) Hs) := by
 refine callsR_of_cw (args := [(Value.agg (segs [id.map u8, pk.map u8]))]) Tryd.func33 rfl Tryd.ntmps33 Tryd.results33 rfl ?_
 have hm0 : Mem w0 (restOf w0) [] := Mem.of_world w0
 refine sR <| rw_c rfl (or_boxX (cs := (segs [id.map u8, pk.map u8])) hm0 rfl) ?_
 rintro _ w1 ⟨b1, rfl, _ew1, hm1⟩
 refine rw_q rfl (ev_assign (v := (Value.slice none 0 0)) rfl) ?_
 refine rN (cw_seq ?_)
 refine cw_draw [(1, false), (2, false), (3, false), (4, false), (0, true)] 5 (by kernel_rfl) <| dw_q rfl rfl (fun _ _hx => ev_fa (r := 0) uT41 rfl (by first | rfl | omega) ti23 rfl rfl) <| dw_q rfl rfl (fun _ _hx => ev_slice_sla (i := 0) (j := 32) uT23 ti5 rfl (optI_none _ _) (optI_none _ _) oM sD sD) <| dw_q rfl rfl (fun _ _hx => ev_fa (r := 32) uT41 rfl (by first | rfl | omega) ti23 rfl rfl) <| dw_q rfl rfl (fun _ _hx => ev_slice_sla (i := 0) (j := 32) uT23 ti5 rfl (optI_none _ _) (optI_none _ _) oM sD sD) ?_
 refine dw_c rfl rfl (fun w2 _ew2 => ?_)
 have hm2 := hm1.ext _ew2
 refine OpR.mono (or_buildSlice_cl u8 [1#8] u8_one hm2 uT26 ti5 rfl rfl rfl) ?_
 rintro _ w3 ⟨b3, rfl, _ew3, hm3⟩
 refine ⟨_ew3, ?_⟩
 refine dw_nil (fun w4 _ew4 => ?_)
 have hm4 := hm3.ext _ew4
 refine rw_c rfl (or_buildSlice_ones [(slc b3 0 1 1), (sla b1 0 1 0 32 32), (sla b1 32 1 0 32 32)] (List.all_eq_true.1 (one_cons rfl (one_cons (Rd.one (Rd.segA [] [pk.map u8] hm4.h1 fl_nil sD (by decide) (by decide))) (one_cons (Rd.one (Rd.segA [id.map u8] [] hm4.h1 (fl_cons (n := 32) (m := 0) (k := 32) (by first | rfl | (rw [List.length_map]; first | omega | (simp; done) | (simp; omega))) fl_nil rfl) sD (by decide) (by decide))) one_nil)))) hm4 uT71 ti26 rfl rfl rfl) ?_
 rintro _ w5 ⟨b8, rfl, _ew5, hm5⟩
 have hm5 : Mem w5 (restOf w0) [(b8, .cells #[(slc b3 0 1 1), (sla b1 0 1 0 32 32), (sla b1 32 1 0 32 32)] 26 (0, 0)), (b3, .cells (cl u8 ([1#8])) 5 (0, 0)), (b1, .cells (segs [id.map u8, pk.map u8]) 41 (0, 0))] := hm5
 refine rw_c rfl (opR_call Tryd.func50 bd50 nm50 (args2 rfl rfl) (c_join3 (slc b8 0 3 3) ([((slc b3 0 1 1), [1#8]), ((sla b1 0 1 0 32 32), id), ((sla b1 32 1 0 32 32), pk)]) _ (Rd.mkA (f := Prod.fst) (l := [((slc b3 0 1 1), [1#8]), ((sla b1 0 1 0 32 32), id), ((sla b1 32 1 0 32 32), pk)]) hm5.h0) (allp_cons (Rd.mkA hm5.h1) (allp_cons (Rd.segA [] [pk.map u8] hm5.h2 fl_nil sD (by decide) (by decide)) (allp_cons (Rd.segA [id.map u8] [] hm5.h2 (fl_cons (n := 32) (m := 0) (k := 32) (by first | rfl | (rw [List.length_map]; first | omega | (simp; done) | (simp; omega))) fl_nil rfl) sD (by decide) (by decide)) allp_nil))) ⟨_, _, _, _, _, _, rfl, rfl, hid, hpk⟩)) ?_
 rintro rq7 w6 ⟨Hsq7, grq7, k_w6⟩
 have hm6 : Mem w6 (restOf w0) (Hsq7 ++ ([(b8, .cells #[(slc b3 0 1 1), (sla b1 0 1 0 32 32), (sla b1 32 1 0 32 32)] 26 (0, 0)), (b3, .cells (cl u8 ([1#8])) 5 (0, 0)), (b1, .cells (segs [id.map u8, pk.map u8]) 41 (0, 0))])) := Mem.new (H := [(b8, .cells #[(slc b3 0 1 1), (sla b1 0 1 0 32 32), (sla b1 32 1 0 32 32)] 26 (0, 0)), (b3, .cells (cl u8 ([1#8])) 5 (0, 0)), (b1, .cells (segs [id.map u8, pk.map u8]) 41 (0, 0))]) (H' := Hsq7) hm5 k_w6
 refine rA rfl (v := rq7) rfl ?_
 refine rN (cw_ret ?_)
 refine fnPost_ret [rq7] ⟨rfl, trivial⟩ ?_
 have hm8 := Mem.drop ([(b8, .cells #[(slc b3 0 1 1), (sla b1 0 1 0 32 32), (sla b1 32 1 0 32 32)] 26 (0, 0))]) _ (Mem.pick Hsq7 [_] _ hm6)
 have hm9 := Mem.drop ([(b3, .cells (cl u8 ([1#8])) 5 (0, 0))]) _ (Mem.pick Hsq7 [_] _ hm8)
 have hm10 := Mem.drop ([(b1, .cells (segs [id.map u8, pk.map u8]) 41 (0, 0))]) _ (Mem.pick Hsq7 [_] _ hm9)
 exact ⟨Hsq7, Grow.cast grq7 (by simp [joinB, encB]), by simpa using hm10⟩


end Go.Proofs.YtmiagmbgfhakgaaDoor

