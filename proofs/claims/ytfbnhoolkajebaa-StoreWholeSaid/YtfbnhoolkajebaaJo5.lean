/- The next generation: plain law; contract of turn. Conditions: none beyond those that each theorem states. -/
import Derived.Test.YtfbnhoolkajebaaJo4
namespace Go.Proofs.Ytfbnhoolkajebaa
set_option linter.unusedVariables false
set_option linter.unusedSimpArgs false
/-! ### The next generation -/
def okP (ps : List WriteT) (n : Int) : Prop := ∀ i, i < ps.length → 0 ≤ (ps.getD i write0).at_ ∧ (ps.getD i write0).at_ < n
theorem okP_hat {ps : List WriteT} {n : Int} (h : okP ps n) : ∀ i, i < ps.length → 0 ≤ (ps.getD i write0).at_ ∧ (ps.getD i write0).at_ < n := h
theorem okP_nil {n : Int} : okP [] n := fun i h => by simp at h
theorem okP_push {ls : List (List (BitVec 8))} {ps : List WriteT} {n : Int} {b : List (BitVec 8)} (h : okP ps (ls.length : Int)) : okP (pushB ls ps n b) (ls.length : Int) := by
  unfold pushB
  split
  · rename_i hi
    intro i hl
    have hin := inB_t hi
    rw [List.length_append] at hl
    by_cases h1 : i < ps.length
    · have e : (ps ++ [(⟨n, b⟩ : WriteT)]).getD i write0 = ps.getD i write0 := by simp [List.getD_eq_getElem?_getD, List.getElem?_append, h1]
      rw [e]; exact h i h1
    · have : i = ps.length := by simp at hl; omega
      subst this
      have e : (ps ++ [(⟨n, b⟩ : WriteT)]).getD ps.length write0 = (⟨n, b⟩ : WriteT) := by simp [List.getD_eq_getElem?_getD]
      rw [e]; exact ⟨by show 0 ≤ n; omega, by show n < _; omega⟩
  · exact h
section
variable {ls : List (List (BitVec 8))} {ps : List WriteT} {pos fr : Int} {g r : BitVec 64} {b : List (BitVec 8)} {L : List (List (BitVec 8))} {n k : Nat}
theorem okP_write (h : okP ps (ls.length : Int)) : ∀ k, okP (writeK ls ps pos g r b k) (ls.length : Int)
  | 0 => h
  | k + 1 => okP_push (okP_write h k)
/-- The writes of all records but the first. -/
def layK (ls : List (List (BitVec 8))) (ps : List WriteT) (fr : Int) (g : BitVec 64) (L : List (List (BitVec 8))) : Nat → List WriteT
  | 0 => ps
  | k + 1 => writeK ls (layK ls ps fr g L k) (fr + (roomB (L.take (k + 1)) : Int)) g (BitVec.ofInt 64 ((k : Int) + 1)) (L.getD (k + 1) []) (blocksN (L.getD (k + 1) []).length)
theorem layK_0 : ps = layK ls ps fr g L 0 := rfl
theorem layK_S {x : List (BitVec 8)} {m : Int} (hx : x = L.getD (k + 1) []) (hm : m = (k : Int) + 1) : writeK ls (layK ls ps fr g L k) (fr + (roomB (L.take (k + 1)) : Int)) g (BitVec.ofInt 64 m) x (blocksN x.length) = layK ls ps fr g L (k + 1) := by subst hx hm; rfl
theorem okP_lay (h : okP ps (ls.length : Int)) : ∀ k, okP (layK ls ps fr g L k) (ls.length : Int)
  | 0 => h
  | k + 1 => okP_write (okP_lay h k) _
theorem roomT_S (h : k < L.length) : roomB (L.take (k + 1)) = roomB (L.take k) + blocksN (L.getD k []).length := by
  rw [List.take_add_one]
  have : L[k]?.toList = [L.getD k []] := by simp [List.getD_eq_getElem?_getD, h]
  rw [this, room_snoc]
theorem room_0 : (0 : Int) = (roomB (L.take 0) : Int) := rfl
theorem room_0n : roomB (L.take 0) ≤ 84001 * 0 := Nat.le_refl 0
theorem roomT_le : ∀ k, roomB (L.take k) ≤ roomB L := by
  intro k
  have h := List.take_append_drop k L
  have : roomB (L.take k ++ L.drop k) = roomB (L.take k) + roomB (L.drop k) := by unfold roomB; rw [List.map_append, List.sum_append]
  rw [h] at this; omega
theorem roomT_k : ∀ k, k ≤ L.length → k ≤ roomB (L.take k)
  | 0, _ => Nat.zero_le _
  | k + 1, h => by
    rw [roomT_S h]
    have := roomT_k k oM
    have := blocksN_pos (L.getD k []).length
    omega
theorem layK_len : ∀ k, k < L.length → (layK ls ps fr g L k).length + blocksN (L.getD 0 []).length ≤ ps.length + roomB (L.take (k + 1))
  | 0, h => by
    rw [roomT_S h]
    show ps.length + _ ≤ _
    have : roomB (L.take 0) = 0 := rfl
    omega
  | k + 1, h => by
    rw [roomT_S h]
    have h1 := layK_len k oM
    have h2 := writeK_len (ls := ls) (ps := layK ls ps fr g L k) (pos := fr + (roomB (L.take (k + 1)) : Int)) (g := g) (r := BitVec.ofInt 64 ((k : Int) + 1)) (b := L.getD (k + 1) []) (blocksN (L.getD (k + 1) []).length)
    show (writeK _ _ _ _ _ _ _).length + _ ≤ _
    omega
/-- The disk behind a turn, ahead of its last sync: what lasts, what doesn't yet. -/
def turnL (ls : List (List (BitVec 8))) (ps : List WriteT) (fr : Int) (g : BitVec 64) (L : List (List (BitVec 8))) : List (List (BitVec 8)) := if (1 : Int) < (L.length : Int) then crashB ls (layK ls ps fr g L (L.length - 1)) [1#8] else ls
def turnP (ls : List (List (BitVec 8))) (ps : List WriteT) (fr : Int) (g : BitVec 64) (L : List (List (BitVec 8))) : List WriteT := writeK (turnL ls ps fr g L) (if (1 : Int) < (L.length : Int) then [] else layK ls ps fr g L (L.length - 1)) (fr + 0) g (BitVec.ofInt 64 0) (L.getD 0 []) (blocksN (L.getD 0 []).length)
theorem crashB_len' {q : List (BitVec 8)} : (crashB ls ps q).length = ls.length := by unfold crashB; exact crashK_len _
theorem turnL_len : (turnL ls ps fr g L).length = ls.length := by unfold turnL; split; exact crashB_len'; rfl
theorem okP_turn (h : okP ps (ls.length : Int)) : okP (turnP ls ps fr g L) ((turnL ls ps fr g L).length : Int) := by
  unfold turnP
  refine okP_write ?_ _
  rw [turnL_len]
  split
  · exact okP_nil
  · exact okP_lay h _
theorem turnP_len (h0 : 0 < L.length) : (turnP ls ps fr g L).length ≤ ps.length + roomB L := by
  unfold turnP
  have h1 := writeK_len (ls := turnL ls ps fr g L) (ps := if (1 : Int) < (L.length : Int) then [] else layK ls ps fr g L (L.length - 1)) (pos := fr + 0) (g := g) (r := BitVec.ofInt 64 0) (b := L.getD 0 []) (blocksN (L.getD 0 []).length)
  have h2 := layK_len (ls := ls) (ps := ps) (fr := fr) (g := g) (L := L) (L.length - 1) oM
  have h3 : roomB (L.take (L.length - 1 + 1)) = roomB L := by rw [List.take_of_length_le oM]
  have h4 : (if (1 : Int) < (L.length : Int) then [] else layK ls ps fr g L (L.length - 1)).length ≤ (layK ls ps fr g L (L.length - 1)).length := by split; exact Nat.zero_le _; exact Nat.le_refl _
  omega
end
theorem room_one {L : List (List (BitVec 8))} (h : 0 < L.length) : (roomB (L.take 1) : Int) = (blocksN (L.getD 0 []).length : Int) := by
  rw [roomT_S h]
  have : roomB (L.take 0) = 0 := rfl
  rw [this]; simp
theorem getD_take1 {α : Type} {l : List α} {d : α} (h : 0 < l.length) : l.take 1 = [l.getD 0 d] := by
  match l, h with
  | a :: l, _ => rfl
/-- The half that counts, and its records. -/
def oldB (ls : List (List (BitVec 8))) (ps : List WriteT) : Int × List (List (BitVec 8)) :=
  let n : Int := (ls.length : Int) / 2
  let f := readH ls ps 0 n
  let s := readH ls ps n n
  if f.gen.toNat < s.gen.toNat then (if (s.gen == 0#64) = true then (n, [[]]) else (n, s.recs)) else (if (f.gen == 0#64) = true then (n, [[]]) else (0, f.recs))
theorem getD_drop1 {α : Type} {l : List α} {k : Nat} {d : α} : (l.drop 1).getD k d = l.getD (k + 1) d := by simp [List.getD_eq_getElem?_getD, Nat.add_comm]
theorem take_snoc {α : Type} {l : List α} {k : Nat} {d : α} (h : k < l.length) : l.take k ++ [l.getD k d] = l.take (k + 1) := by
  rw [List.take_add_one]; simp [List.getD_eq_getElem?_getD, h]
attribute [local irreducible] crashB crashK pushB readB inB errB cutN seenW
attribute [local irreducible] markB putB getB getK partB placeF blkOf rawB writeK blocksN
attribute [local irreducible] mostK newB roomB
attribute [local irreducible] recB recF recN genF badB lastP dataB gOf rOf pOf nOf loopH readH
attribute [local irreducible] okP layK turnL turnP oldB
set_option maxHeartbeats 2000000 in
theorem c_jturn (bj : Nat) (fr0 sz : Int) (ge : BitVec 64) (vj : Value) (ja : Int) (bd : Nat) (vl : Value) (ls : List (List (BitVec 8))) (Hl : List (Nat × Obj)) (vp : Value) (ps : List WriteT) (Hp : List (Nat × Obj)) (vL : Value) (rl : List SlT) (w0 : World) (R : Rest) (hm0 : Mem w0 R ([(bd, .cells #[vl, vp] 94 (0, 0))] ++ (Hl ++ (Hp ++ ([]))))) (gl : GrowK (encA u8) 64 83 vl ls Hl) (gp : GrowK encW 65 104 vp ps Hp) (hj : R.blk bj = some (.cells #[ptr bd 0, i64 fr0, i64 sz, u64 ge, vj, i64 ja] 100 (0, 0))) (hrl : RdL R.blk vL rl) (h1 : 0 < rl.length ∧ rl.length ≤ 2000) (hre : ∀ p ∈ rl, p.2.length ≤ 84000) (hll : ls.length ≤ 65536) (hpl : ps.length ≤ 2000) (hok : okP ps (ls.length : Int)) (hsz : 0 ≤ fr0 ∧ fr0 ≤ sz ∧ sz ≤ 2000) (hneed : (roomB (rl.map (·.2)) : Int) ≤ sz) (hnew : (newB ls ps == 0#64) = false) : CallsR Try.prog 51 #[(ptr bj 0), vL] w0 (fun r w1 => ∃ bn vr rs Hr Hl2 vp2 Hp2, r = .tuple #[ptr bn 0, i64 0] ∧ rs.map (·.2) = (rl.map (·.2)) ∧ rs.length = rl.length ∧ GrowL mN 23 vr rs Hr ∧ GrowK (encA u8) 64 83 vl (turnL ls ps (sz - fr0) (newB ls ps) (rl.map (·.2))) Hl2 ∧ GrowK encW 65 104 vp2 (turnP ls ps (sz - fr0) (newB ls ps) (rl.map (·.2))) Hp2 ∧ Mem w1 R ([(bn, .cells #[(ptr bd 0), (i64 (sz - fr0)), (i64 sz), (u64 (newB ls ps)), vr, (i64 (roomB (rl.map (·.2)) : Int))] 100 (0, 0))] ++ (Hr ++ ([(bd, .cells #[vl, vp2] 94 (0, 0))] ++ (Hl2 ++ (Hp2 ++ ([]))))))) := by
 refine callsR_of_cw (args := [(ptr bj 0), vL]) Try.func51 rfl Try.ntmps51 Try.results51 rfl ?_
 have hg0 : (rl.getD 0 sl0).2 = (rl.map (·.2)).getD 0 [] := snd_getD rfl h1.1
 have hre0 := hre _ (getD_mem (d := sl0) h1.1)
 have hrt1 := roomT_le (L := (rl.map (·.2))) 1
 have hro1 := room_one (L := (rl.map (·.2))) (by simp; omega)
 have hbp0 := blocksN_pos (rl.getD 0 sl0).2.length
 have hdl : (rl.drop 1).length = rl.length - 1 := by simp
 refine sR <| rw_q rfl (ev_assign (v := (Value.pointer none)) rfl) <| rw_q rfl (ev_assign (v := (i64 0)) rfl) ?_
 refine rN (sR ?_)
 refine rw_q rfl (ev_assign (v := (i64 0)) rfl) ?_
 refine rN (cw_seq (sR ?_))
 refine rM rfl (v := vL) rfl <| rw_q (v := (i64 (rl.length : Int))) rfl (ev_len_rd (RdL.row (RdL.ofRest (R := R) hrl hm0)) uT22 rfl) <| rw_q rfl (ev_move (v := (i64 0)) rfl) ?_
 refine rN (cw_block ?_)
 refine cw_loop (fun g wv => ∃ (k : Nat), (k ≤ rl.length) ∧ (roomB ((rl.map (·.2)).take k) ≤ 84001 * k) ∧ g 0 = (ptr bj 0) ∧ g 1 = vL ∧ g 4 = (Value.pointer none) ∧ g 5 = (i64 0) ∧ g 6 = (i64 (roomB ((rl.map (·.2)).take k) : Int)) ∧ g 13 = vL ∧ g 14 = (i64 (rl.length : Int)) ∧ g 15 = (i64 (k : Int)) ∧ Mem wv R ([(bd, .cells #[vl, vp] 94 (0, 0))] ++ (Hl ++ (Hp ++ ([]))))) (fun g wv => ((rl.length : Int) - RowKit.intOf (g 15)).toNat) ?_ ?_
 · exact ⟨0, (Nat.zero_le _), room_0n, rfl, rfl, rfl, rfl, (congrArg i64 room_0), rfl, rfl, rfl, hm0⟩
 · rintro fr1 w2 ⟨k, hk, hrb, s0, s1, s4, s5, s6, s13, s14, s15, hm2⟩
   have z6 := s6
   have z15 := s15
   refine sR <| rw_q rfl (ev_i64_lss s15 s14) ?_
   refine rN (cw_seq ?_)
   refine cw_cond rfl (fun hc3 => ?_) (fun hc3 => ?_)
   · -- true
     have hc3p := of_decide_eq_true hc3
     have hgk : (rl.getD k sl0).2 = (rl.map (·.2)).getD k [] := snd_getD rfl oM
     have hre1 := hre _ (getD_mem (d := sl0) (show k < rl.length by omega))
     have hrs1 := roomT_S (L := (rl.map (·.2))) (k := k) (by simp; omega)
     have hbp := blocksN_pos (rl.getD k sl0).2.length
     refine cw_skip (kThen_normal (cw_seq (cw_block (sR ?_))))
     refine rw_q rfl (ev_indexAddr_rdv (RdL.row (RdL.ofRest (R := R) hrl hm2)) uT22 ti23 s13 s15 oM sL) <| rw_q (v := (slv (rl.getD k sl0))) rfl (ev_load_rdD (l := rl) (i := (k : Int)) (dflt := sl0) (RdL.row (RdL.ofRest (R := R) hrl hm2)) uT23 rfl oM sL rfl) <| rw_q rfl (ev_assign (v := (slv (rl.getD k sl0))) rfl) ?_
     refine rN (cw_region ?_)
     refine rM rfl s6 <| rw_q rfl (ev_move (v := (slv (rl.getD k sl0))) rfl) <| rw_q (v := (i64 (((rl.getD k sl0).2).length : Int))) rfl (ev_len_rd (RdL.get (k := k) (RdL.ofRest (R := R) hrl hm2) sL) uT23 rfl) <| rw_c rfl (opR_call Try.func53 bd53 nm53 (args1 rfl) (c_jblocks (((rl.getD k sl0).2).length) _ sL)) ?_
     rintro _ w4 ⟨rfl, _ew4⟩
     have hm4 := hm2.ext _ew4
     refine rw_q rfl (ev_i64_add rfl rfl oM oM) <| rA rfl rfl ?_
     refine rw_nil (kBlk_normal (cw_region ?_))
     refine rw_q rfl (ev_i64_add (b := 1) s15 rfl oM oM) <| rw_q rfl (ev_move (v := (i64 ((k : Int) + 1))) rfl) <| rN ?_
     exact ⟨⟨(k + 1), oM, (by rw [hrs1, ← hgk]; omega), s0, s1, s4, s5, (Eq.trans rfl (congrArg i64 (by rw [hrs1, ← hgk]; push_cast; rfl))), s13, s14, rfl, hm4⟩, meas (rfl) z15 oM oM⟩
   · -- false
     have hc3p := of_decide_eq_false hc3
     have hneq : (roomB ((rl.map (·.2)).take k) : Int) = (roomB (rl.map (·.2)) : Int) := by rw [List.take_of_length_le (by simp; omega)]
     refine CW.abs (fun g => g 0 = (ptr bj 0) ∧ g 1 = vL ∧ g 4 = (Value.pointer none) ∧ g 5 = (i64 0) ∧ g 6 = (i64 (roomB (rl.map (·.2)) : Int)) ∧ g 13 = vL ∧ g 14 = (i64 (rl.length : Int)) ∧ g 15 = (i64 (k : Int)) ∧ g 16 = (bl (decide ((k : Int) < (rl.length : Int)))) ∧ True) ⟨s0, s1, s4, s5, (Eq.trans s6 (congrArg i64 hneq)), s13, s14, s15, rfl, trivial⟩ ?_
     rintro fr6 ⟨s0, s1, s4, s5, s6, s13, s14, s15, s16, _⟩
     refine cw_exit ?_
     refine kThen_exit (kThen_exit (kBlk_hit ?_))
     refine sR <| rM rfl s0 <| rw_q rfl (ev_nilCheck rfl) <| rw_q rfl (ev_fa (r := 0) uT100 rfl (by first | rfl | omega) ti25 rfl rfl) <| rw_q (v := (ptr bd 0)) rfl (ev_load1 uT25 rfl rfl (hm2.rest _ _ hj) rfl) <| rw_c rfl (opR_call Try.func71 bd71 nm71 (args1 rfl) (c_jnewest bd vl ls vp ps _ hm2.h0 (gl.rd (Mem.pick [_] Hl _ hm2)) (gp.rd (Mem.pick2 [_] Hl Hp _ hm2)) sL sL)) ?_
     rintro _ w7 ⟨rfl, _ew7⟩
     have hm7 := hm2.ext _ew7
     refine rw_q rfl (ev_assign (v := (u64 (newB ls ps))) rfl) ?_
     refine rN (cw_seq (sR ?_))
     refine rM rfl s6 <| rM rfl s0 <| rw_q rfl (ev_nilCheck rfl) <| rw_q rfl (ev_fa (r := 1) uT100 rfl (by first | rfl | omega) ti97 rfl rfl) <| rw_q rfl (ev_fa (r := 2) uT97 rfl (by first | rfl | omega) ti3 rfl rfl) <| rw_q (v := (i64 sz)) rfl (ev_load1 uT3 rfl rfl (hm7.rest _ _ hj) rfl) ?_
     refine rw_q rfl (ev_i64_gtr rfl rfl) <| rw_q rfl (ev_move (v := (bl (decide (sz < (roomB (rl.map (·.2)) : Int))))) rfl) ?_
     have hd9 : (decide (sz < (roomB (rl.map (·.2)) : Int))) = false := decide_eq_false oM
     refine rw_gyq (s := 37) rfl rfl hd9 rfl (ev_move (v := (u64 (newB ls ps))) rfl) <| rw_gyq (s := 37) rfl rfl hd9 rfl (ev_u64_eql (b := 0#64) rfl rfl) <| rw_q rfl (ev_pick_fk rfl hd9 rfl) <| rN ?_
     refine CW.abs (fun g => g 0 = (ptr bj 0) ∧ g 1 = vL ∧ g 4 = (Value.pointer none) ∧ g 5 = (i64 0) ∧ g 6 = (i64 (roomB (rl.map (·.2)) : Int)) ∧ g 9 = (u64 (newB ls ps)) ∧ g 13 = vL ∧ g 14 = (i64 (rl.length : Int)) ∧ g 15 = (i64 (k : Int)) ∧ g 16 = (bl (decide ((k : Int) < (rl.length : Int)))) ∧ g 40 = (bl ((newB ls ps) == 0#64)) ∧ True) ⟨s0, s1, s4, s5, s6, rfl, s13, s14, s15, s16, rfl, trivial⟩ ?_
     rintro fr10 ⟨s0, s1, s4, s5, s6, s9, s13, s14, s15, s16, s40, _⟩
     have hd11 : ((newB ls ps) == 0#64) = false := hnew
     refine cw_cond_f s40 hd11 ?_
     refine cw_skip (kThen_normal (cw_seq ?_))
     refine cw_draw [(0, false), (1, false), (2, false), (3, false), (4, false), (5, false), (6, false), (7, false), (8, false), (9, false), (10, false), (11, false), (12, false), (13, false), (14, false), (15, false), (16, false), (17, false), (18, false), (19, false), (20, false), (21, false)] 22 (by kernel_rfl) <| dM rfl rfl s0 <| dw_q rfl rfl (fun _ _hx => ev_nilCheck rfl) <| dw_q rfl rfl (fun _ _hx => ev_fa (r := 0) uT100 rfl (by first | rfl | omega) ti25 rfl rfl) <| dw_q (v := (ptr bd 0)) rfl rfl (fun _ _hx => ev_load1 uT25 rfl rfl ((hm7.ext _hx).rest _ _ hj) rfl) <| dM rfl rfl s0 ?_
     refine dw_q rfl rfl (fun _ _hx => ev_nilCheck rfl) <| dw_q rfl rfl (fun _ _hx => ev_fa (r := 1) uT100 rfl (by first | rfl | omega) ti97 rfl rfl) <| dw_q rfl rfl (fun _ _hx => ev_fa (r := 2) uT97 rfl (by first | rfl | omega) ti3 rfl rfl) <| dw_q (v := (i64 sz)) rfl rfl (fun _ _hx => ev_load1 uT3 rfl rfl ((hm7.ext _hx).rest _ _ hj) rfl) <| dM rfl rfl s0 <| dw_q rfl rfl (fun _ _hx => ev_nilCheck rfl) ?_
     refine dw_q rfl rfl (fun _ _hx => ev_fa (r := 1) uT100 rfl (by first | rfl | omega) ti97 rfl rfl) <| dw_q rfl rfl (fun _ _hx => ev_fa (r := 1) uT97 rfl (by first | rfl | omega) ti3 rfl rfl) <| dw_q (v := (i64 fr0)) rfl rfl (fun _ _hx => ev_load1 uT3 rfl rfl ((hm7.ext _hx).rest _ _ hj) rfl) <| dw_q rfl rfl (fun _ _hx => ev_i64_sub rfl rfl oM oM) <| dM rfl rfl s0 <| dw_q rfl rfl (fun _ _hx => ev_nilCheck rfl) ?_
     refine dw_q rfl rfl (fun _ _hx => ev_fa (r := 1) uT100 rfl (by first | rfl | omega) ti97 rfl rfl) <| dw_q rfl rfl (fun _ _hx => ev_fa (r := 2) uT97 rfl (by first | rfl | omega) ti3 rfl rfl) <| dw_q (v := (i64 sz)) rfl rfl (fun _ _hx => ev_load1 uT3 rfl rfl ((hm7.ext _hx).rest _ _ hj) rfl) <| dM rfl rfl s9 <| dw_q rfl rfl (fun _ _hx => ev_build_pt (c := #[(i64 (sz - fr0)), (i64 sz), (u64 (newB ls ps)), (Value.slice none 0 0), (i64 0)]) (pl := [(0, 1), (1, 1), (2, 1), (3, 1), (4, 1)]) ti97 uT97 (by kernel_rfl) (pm_cons (i := 0) (v := (i64 (sz - fr0))) (cs := #[(i64 (sz - fr0))]) rfl rfl (pm_cons (i := 1) (v := (i64 sz)) (cs := #[(i64 sz)]) rfl rfl (pm_cons (i := 2) (v := (u64 (newB ls ps))) (cs := #[(u64 (newB ls ps))]) rfl rfl pm_nil))) (by kernel_rfl)) ?_
     refine dw_nil (fun w12 _ew12 => ?_)
     have hm12 := hm7.ext _ew12
     refine rw_q rfl (ev_build_pt (c := #[(ptr bd 0), (i64 (sz - fr0)), (i64 sz), (u64 (newB ls ps)), (Value.slice none 0 0), (i64 0)]) (pl := [(0, 1), (1, 5)]) ti100 uT100 (by kernel_rfl) (pm_cons (i := 0) (v := (ptr bd 0)) (cs := #[(ptr bd 0)]) rfl rfl (pm_cons (i := 1) (v := (Value.agg #[(i64 (sz - fr0)), (i64 sz), (u64 (newB ls ps)), (Value.slice none 0 0), (i64 0)])) (cs := #[(i64 (sz - fr0)), (i64 sz), (u64 (newB ls ps)), (Value.slice none 0 0), (i64 0)]) rfl rfl pm_nil)) (by kernel_rfl)) <| rw_c rfl (or_boxX (cs := #[(ptr bd 0), (i64 (sz - fr0)), (i64 sz), (u64 (newB ls ps)), (Value.slice none 0 0), (i64 0)]) hm12 rfl) ?_
     rintro _ w13 ⟨b64, rfl, _ew13, hm13⟩
     refine rw_q rfl (ev_assign (v := (ptr b64 0)) rfl) <| rN ?_
     refine CW.abs (fun g => g 0 = (ptr bj 0) ∧ g 1 = vL ∧ g 4 = (Value.pointer none) ∧ g 5 = (i64 0) ∧ g 6 = (i64 (roomB (rl.map (·.2)) : Int)) ∧ g 9 = (u64 (newB ls ps)) ∧ g 10 = (ptr b64 0) ∧ g 13 = vL ∧ g 14 = (i64 (rl.length : Int)) ∧ g 15 = (i64 (k : Int)) ∧ g 16 = (bl (decide ((k : Int) < (rl.length : Int)))) ∧ g 40 = (bl ((newB ls ps) == 0#64)) ∧ True) ⟨s0, s1, s4, s5, s6, s9, rfl, s13, s14, s15, s16, s40, trivial⟩ ?_
     rintro fr14 ⟨s0, s1, s4, s5, s6, s9, s10, s13, s14, s15, s16, s40, _⟩
     refine cw_seq ?_
     refine cw_meet (J := fun g wv => ∃ (vr1 : Value) (rs1 : List SlT) (Hr1 : List (Nat × Obj)), (rs1.map (·.2) = (rl.map (·.2)).take 1) ∧ (rs1.length = 1) ∧ (GrowL mN 23 vr1 rs1 Hr1) ∧ g 0 = (ptr bj 0) ∧ g 1 = vL ∧ g 4 = (Value.pointer none) ∧ g 5 = (i64 0) ∧ g 6 = (i64 (roomB (rl.map (·.2)) : Int)) ∧ g 9 = (u64 (newB ls ps)) ∧ g 10 = (ptr b64 0) ∧ g 13 = vL ∧ g 14 = (i64 (rl.length : Int)) ∧ g 15 = (i64 (k : Int)) ∧ g 16 = (bl (decide ((k : Int) < (rl.length : Int)))) ∧ g 40 = (bl ((newB ls ps) == 0#64)) ∧ Mem wv R ([(b64, .cells #[(ptr bd 0), (i64 (sz - fr0)), (i64 sz), (u64 (newB ls ps)), vr1, (i64 (roomB ((rl.map (·.2)).take 1) : Int))] 100 (0, 0))] ++ (Hr1 ++ ([(bd, .cells #[vl, vp] 94 (0, 0))] ++ (Hl ++ (Hp ++ ([]))))))) ?_ ?_
     · skip
       refine cw_drawE (by kernel_rfl) ?_
       refine re_or 11 15 rfl rfl ?_ ?_
       · -- 11 ahead of 15
         have hFM15 : Mem w13 R ([(b64, .cells #[(ptr bd 0), (i64 (sz - fr0)), (i64 sz), (u64 (newB ls ps)), (Value.slice none 0 0), (i64 0)] 100 (0, 0))] ++ ([(bd, .cells #[vl, vp] 94 (0, 0))] ++ (Hl ++ (Hp ++ ([]))))) := hm13
         obtain ⟨RM15, hRM15⟩ : ∃ R2, R2 = Rest.add R ([(bd, .cells #[vl, vp] 94 (0, 0))] ++ (Hl ++ (Hp ++ ([])))) := ⟨_, rfl⟩
         have M150 : Mem w13 RM15 [(b64, .cells #[(ptr bd 0), (i64 (sz - fr0)), (i64 sz), (u64 (newB ls ps)), (Value.slice none 0 0), (i64 0)] 100 (0, 0))] := by rw [hRM15]; exact Mem.give hFM15
         have hr16 : RdL RM15.blk vL rl := by rw [hRM15]; exact RdL.mono hrl fun b o e => Mem.addRest hFM15 e
         have ho17 : RM15.blk bd = some (.cells #[vl, vp] 94 (0, 0)) := by rw [hRM15]; exact Mem.addOwn hFM15 (List.mem_append_left _ (List.Mem.head _))
         have hg18 : RdK RM15.blk (encA u8) 64 vl ls := gl.rdIn (fun p hp => by rw [hRM15]; exact Mem.addOwn hFM15 (List.mem_append_right _ (List.mem_append_left _ hp)))
         have hg19 : RdK RM15.blk encW 65 vp ps := gp.rdIn (fun p hp => by rw [hRM15]; exact Mem.addOwn hFM15 (List.mem_append_right _ (List.mem_append_right _ (List.mem_append_left _ hp))))
         have ho20 : RM15.blk bj = some (.cells #[(ptr bd 0), (i64 fr0), (i64 sz), (u64 ge), vj, (i64 ja)] 100 (0, 0)) := by rw [hRM15]; exact Mem.addRest hFM15 hj
         refine re_planM M150 [(0, false), (1, false), (2, false), (3, false), (4, false), (5, false), (6, false), (7, false), (8, false), (9, false), (10, true), (12, false), (13, false), (14, false), (11, true), (15, true)] 16 rfl (by kernel_rfl) <| dk_q rfl rfl (fun w _H _hx => ev_move s10) <| dk_q rfl rfl (fun w _H _hx => ev_move s10) <| dk_q rfl rfl (fun w _H _hx => ev_move s1) <| dk_q rfl rfl (fun w _H _hx => ev_indexAddr_rdv (i := 0) (RdL.row (RdL.ofRest (R := RM15) hr16 _hx)) uT22 ti23 rfl rfl oM sL) <| dk_q (v := (slv (rl.getD 0 sl0))) rfl rfl (fun w _H _hx => ev_load_rdD (l := rl) (i := 0) (dflt := sl0) (RdL.row (RdL.ofRest (R := RM15) hr16 _hx)) uT23 rfl oM sL rfl) ?_
         refine dk_q (v := (i64 (((rl.getD 0 sl0).2).length : Int))) rfl rfl (fun w _H _hx => ev_len_rd (RdL.get (k := 0) (RdL.ofRest (R := RM15) hr16 _hx) sL) uT23 rfl) <| dk_x (v := (i64 (blocksN (((rl.getD 0 sl0).2).length) : Int))) rfl rfl (fun w21 _Hw21 _hw21 => OpR.mono (opR_call Try.func53 bd53 nm53 (args1 rfl) (c_jblocks (((rl.getD 0 sl0).2).length) _ sL)) (by rintro _ w22 ⟨rfl, _ew22⟩; exact ⟨rfl, _ew22⟩)) <| dk_q rfl rfl (fun w _H _hx => ev_move s1) <| dk_q rfl rfl (fun w _H _hx => ev_indexAddr_rdv (i := 0) (RdL.row (RdL.ofRest (R := RM15) hr16 _hx)) uT22 ti23 rfl rfl oM sL) <| dk_q (v := (slv (rl.getD 0 sl0))) rfl rfl (fun w _H _hx => ev_load_rdD (l := rl) (i := 0) (dflt := sl0) (RdL.row (RdL.ofRest (R := RM15) hr16 _hx)) uT23 rfl oM sL rfl) ?_
         refine dk_c rfl rfl (fun w24 _ew24 => ?_)
         have hm24 := M150.ext _ew24
         refine OpR.mono (opR_call Try.func54 bd54 nm54 (args1 rfl) (c_clone (slv (rl.getD 0 sl0)) ((rl.getD 0 sl0).2) _ (RdL.get (k := 0) (RdL.ofRest (R := RM15) hr16 hm24) sL) sL)) ?_
         rintro rq26 w25 ⟨Hsq26, grq26, k_w25⟩
         have hm25 : Mem w25 RM15 (Hsq26 ++ ([(b64, .cells #[(ptr bd 0), (i64 (sz - fr0)), (i64 sz), (u64 (newB ls ps)), (Value.slice none 0 0), (i64 0)] 100 (0, 0))])) := Mem.new (H := [(b64, .cells #[(ptr bd 0), (i64 (sz - fr0)), (i64 sz), (u64 (newB ls ps)), (Value.slice none 0 0), (i64 0)] 100 (0, 0))]) (H' := Hsq26) hm24 k_w25
         refine ⟨⟨_, hm25⟩, ?_⟩
         refine dk_q rfl rfl (fun w _H _hx => ev_nilCheck rfl) <| dk_q rfl rfl (fun w _H _hx => ev_fa (r := 1) uT100 rfl (by first | rfl | omega) ti97 rfl rfl) <| dk_q rfl rfl (fun w _H _hx => ev_fa (r := 5) uT97 rfl (by first | rfl | omega) ti3 rfl rfl) ?_
         refine dk_c rfl rfl (fun w27 _ew27 => ?_)
         have hm27 := hm25.ext _ew27
         refine OpR.mono (or_buildSlice_ones [rq26] (List.all_eq_true.1 (one_cons grq26.one one_nil)) hm27 uT22 ti23 rfl rfl rfl) ?_
         rintro _ w28 ⟨b76, rfl, _ew28, hm28⟩
         have hm28 : Mem w28 RM15 ([(b76, .cells #[rq26] 23 (0, 0))] ++ (Hsq26 ++ ([(b64, .cells #[(ptr bd 0), (i64 (sz - fr0)), (i64 sz), (u64 (newB ls ps)), (Value.slice none 0 0), (i64 0)] 100 (0, 0))]))) := hm28
         obtain ⟨HL28, gL28, hmL28⟩ : ∃ q, GrowL mN 23 (slc b76 0 1 1) [toSl rq26 ((rl.getD 0 sl0).2)] q ∧ Mem w28 RM15 (q ++ [(b64, .cells #[(ptr bd 0), (i64 (sz - fr0)), (i64 sz), (u64 (newB ls ps)), (Value.slice none 0 0), (i64 0)] 100 (0, 0))]) := ⟨_, GrowL.of1 (Grow.toSl ((rl.getD 0 sl0).2) grq26) (el_grow grq26), (by
           have hT := hm28
           try simp only [List.append_assoc, List.cons_append, List.nil_append, List.append_nil] at hT ⊢
           exact hT)⟩
         refine ⟨⟨_, hmL28⟩, ?_⟩
         refine dk_n rfl (fun w29 _ew29 => ?_)
         have hm29 := hmL28.ext _ew29
         refine OpR.mono (or_store1 ti3 rfl rfl (i64_one _) ((Mem.pick HL28 [_] _ hm29)).h0 (by simp) (.inl (Nat.zero_le _))) ?_
         rintro _ w30 uq30
         have hm30 : Mem w30 RM15 ([(b64, .cells #[(ptr bd 0), (i64 (sz - fr0)), (i64 sz), (u64 (newB ls ps)), (Value.slice none 0 0), (i64 (blocksN (((rl.getD 0 sl0).2).length) : Int))] 100 (0, 0))] ++ (HL28 ++ ([]))) := Mem.upd0 (Mem.pick HL28 [_] _ hm29) uq30
         refine ⟨⟨_, hm30⟩, ?_⟩
         refine dw_nil (fun w31 _ew31 => ?_)
         have hm31 := hm30.ext _ew31
         have hX32 := hm31
         rw [hRM15] at hX32
         have hm33 : Mem w31 R ([(b64, .cells #[(ptr bd 0), (i64 (sz - fr0)), (i64 sz), (u64 (newB ls ps)), (Value.slice none 0 0), (i64 (blocksN (((rl.getD 0 sl0).2).length) : Int))] 100 (0, 0))] ++ (HL28 ++ ([(bd, .cells #[vl, vp] 94 (0, 0))] ++ (Hl ++ (Hp ++ ([])))))) := (by
           have hT := Mem.back hFM15 hX32
           try simp only [List.append_assoc, List.cons_append, List.nil_append, List.append_nil] at hT ⊢
           exact hT)
         refine rw_q rfl (ev_nilCheck rfl) <| rw_q rfl (ev_fa (r := 1) uT100 rfl (by first | rfl | omega) ti97 rfl rfl) <| rw_q rfl (ev_fa (r := 4) uT97 rfl (by first | rfl | omega) ti22 rfl rfl) <| rw_n (or_store1 ti22 rfl rfl gL28.one hm33.h0 (by simp) (.inl (Nat.zero_le _))) ?_
         rintro _ w34 uq34
         have hm34 : Mem w34 R ([(b64, .cells #[(ptr bd 0), (i64 (sz - fr0)), (i64 sz), (u64 (newB ls ps)), (slc b76 0 1 1), (i64 (blocksN (((rl.getD 0 sl0).2).length) : Int))] 100 (0, 0))] ++ (HL28 ++ ([(bd, .cells #[vl, vp] 94 (0, 0))] ++ (Hl ++ (Hp ++ ([])))))) := hm33.upd0 uq34
         refine rN ?_
         exact ⟨(slc b76 0 1 1), [toSl rq26 ((rl.getD 0 sl0).2)], HL28, (by rw [List.map_take.symm, getD_take1 (d := sl0) h1.1]; simp [toSl_snd]), rfl, gL28, s0, s1, s4, s5, s6, s9, s10, s13, s14, s15, s16, s40, (by rw [room_one (by simp; omega), ← hg0]; exact hm34)⟩
       · -- 15 ahead of 11
         have hFM35 : Mem w13 R ([(b64, .cells #[(ptr bd 0), (i64 (sz - fr0)), (i64 sz), (u64 (newB ls ps)), (Value.slice none 0 0), (i64 0)] 100 (0, 0))] ++ ([(bd, .cells #[vl, vp] 94 (0, 0))] ++ (Hl ++ (Hp ++ ([]))))) := hm13
         obtain ⟨RM35, hRM35⟩ : ∃ R2, R2 = Rest.add R ([(bd, .cells #[vl, vp] 94 (0, 0))] ++ (Hl ++ (Hp ++ ([])))) := ⟨_, rfl⟩
         have M350 : Mem w13 RM35 [(b64, .cells #[(ptr bd 0), (i64 (sz - fr0)), (i64 sz), (u64 (newB ls ps)), (Value.slice none 0 0), (i64 0)] 100 (0, 0))] := by rw [hRM35]; exact Mem.give hFM35
         have hr36 : RdL RM35.blk vL rl := by rw [hRM35]; exact RdL.mono hrl fun b o e => Mem.addRest hFM35 e
         have ho37 : RM35.blk bd = some (.cells #[vl, vp] 94 (0, 0)) := by rw [hRM35]; exact Mem.addOwn hFM35 (List.mem_append_left _ (List.Mem.head _))
         have hg38 : RdK RM35.blk (encA u8) 64 vl ls := gl.rdIn (fun p hp => by rw [hRM35]; exact Mem.addOwn hFM35 (List.mem_append_right _ (List.mem_append_left _ hp)))
         have hg39 : RdK RM35.blk encW 65 vp ps := gp.rdIn (fun p hp => by rw [hRM35]; exact Mem.addOwn hFM35 (List.mem_append_right _ (List.mem_append_right _ (List.mem_append_left _ hp))))
         have ho40 : RM35.blk bj = some (.cells #[(ptr bd 0), (i64 fr0), (i64 sz), (u64 ge), vj, (i64 ja)] 100 (0, 0)) := by rw [hRM35]; exact Mem.addRest hFM35 hj
         refine re_planM M350 [(0, false), (1, false), (2, false), (3, false), (4, false), (5, false), (6, false), (7, false), (8, false), (9, false), (10, true), (12, false), (13, false), (14, false), (15, true), (11, true)] 16 rfl (by kernel_rfl) <| dk_q rfl rfl (fun w _H _hx => ev_move s10) <| dk_q rfl rfl (fun w _H _hx => ev_move s10) <| dk_q rfl rfl (fun w _H _hx => ev_move s1) <| dk_q rfl rfl (fun w _H _hx => ev_indexAddr_rdv (i := 0) (RdL.row (RdL.ofRest (R := RM35) hr36 _hx)) uT22 ti23 rfl rfl oM sL) <| dk_q (v := (slv (rl.getD 0 sl0))) rfl rfl (fun w _H _hx => ev_load_rdD (l := rl) (i := 0) (dflt := sl0) (RdL.row (RdL.ofRest (R := RM35) hr36 _hx)) uT23 rfl oM sL rfl) ?_
         refine dk_q (v := (i64 (((rl.getD 0 sl0).2).length : Int))) rfl rfl (fun w _H _hx => ev_len_rd (RdL.get (k := 0) (RdL.ofRest (R := RM35) hr36 _hx) sL) uT23 rfl) <| dk_x (v := (i64 (blocksN (((rl.getD 0 sl0).2).length) : Int))) rfl rfl (fun w41 _Hw41 _hw41 => OpR.mono (opR_call Try.func53 bd53 nm53 (args1 rfl) (c_jblocks (((rl.getD 0 sl0).2).length) _ sL)) (by rintro _ w42 ⟨rfl, _ew42⟩; exact ⟨rfl, _ew42⟩)) <| dk_q rfl rfl (fun w _H _hx => ev_move s1) <| dk_q rfl rfl (fun w _H _hx => ev_indexAddr_rdv (i := 0) (RdL.row (RdL.ofRest (R := RM35) hr36 _hx)) uT22 ti23 rfl rfl oM sL) <| dk_q (v := (slv (rl.getD 0 sl0))) rfl rfl (fun w _H _hx => ev_load_rdD (l := rl) (i := 0) (dflt := sl0) (RdL.row (RdL.ofRest (R := RM35) hr36 _hx)) uT23 rfl oM sL rfl) ?_
         refine dk_c rfl rfl (fun w44 _ew44 => ?_)
         have hm44 := M350.ext _ew44
         refine OpR.mono (opR_call Try.func54 bd54 nm54 (args1 rfl) (c_clone (slv (rl.getD 0 sl0)) ((rl.getD 0 sl0).2) _ (RdL.get (k := 0) (RdL.ofRest (R := RM35) hr36 hm44) sL) sL)) ?_
         rintro rq46 w45 ⟨Hsq46, grq46, k_w45⟩
         have hm45 : Mem w45 RM35 (Hsq46 ++ ([(b64, .cells #[(ptr bd 0), (i64 (sz - fr0)), (i64 sz), (u64 (newB ls ps)), (Value.slice none 0 0), (i64 0)] 100 (0, 0))])) := Mem.new (H := [(b64, .cells #[(ptr bd 0), (i64 (sz - fr0)), (i64 sz), (u64 (newB ls ps)), (Value.slice none 0 0), (i64 0)] 100 (0, 0))]) (H' := Hsq46) hm44 k_w45
         refine ⟨⟨_, hm45⟩, ?_⟩
         refine dk_q rfl rfl (fun w _H _hx => ev_nilCheck rfl) <| dk_q rfl rfl (fun w _H _hx => ev_fa (r := 1) uT100 rfl (by first | rfl | omega) ti97 rfl rfl) <| dk_q rfl rfl (fun w _H _hx => ev_fa (r := 5) uT97 rfl (by first | rfl | omega) ti3 rfl rfl) ?_
         refine dk_n rfl (fun w47 _ew47 => ?_)
         have hm47 := hm45.ext _ew47
         refine OpR.mono (or_store1 ti3 rfl rfl (i64_one _) ((Mem.pick Hsq46 [_] _ hm47)).h0 (by simp) (.inl (Nat.zero_le _))) ?_
         rintro _ w48 uq48
         have hm48 : Mem w48 RM35 ([(b64, .cells #[(ptr bd 0), (i64 (sz - fr0)), (i64 sz), (u64 (newB ls ps)), (Value.slice none 0 0), (i64 (blocksN (((rl.getD 0 sl0).2).length) : Int))] 100 (0, 0))] ++ (Hsq46 ++ ([]))) := Mem.upd0 (Mem.pick Hsq46 [_] _ hm47) uq48
         refine ⟨⟨_, hm48⟩, ?_⟩
         refine dk_c rfl rfl (fun w49 _ew49 => ?_)
         have hm49 := hm48.ext _ew49
         refine OpR.mono (or_buildSlice_ones [rq46] (List.all_eq_true.1 (one_cons grq46.one one_nil)) hm49 uT22 ti23 rfl rfl rfl) ?_
         rintro _ w50 ⟨b76_1, rfl, _ew50, hm50⟩
         have hm50 : Mem w50 RM35 ([(b76_1, .cells #[rq46] 23 (0, 0)), (b64, .cells #[(ptr bd 0), (i64 (sz - fr0)), (i64 sz), (u64 (newB ls ps)), (Value.slice none 0 0), (i64 (blocksN (((rl.getD 0 sl0).2).length) : Int))] 100 (0, 0))] ++ (Hsq46 ++ ([]))) := hm50
         have hm51 := (Mem.pick [_] [_] _ hm50)
         have hm52 := (Mem.pick [_, _] Hsq46 _ hm51)
         have hm53 := (Mem.pick2 Hsq46 [_] [_] _ hm52)
         obtain ⟨HL50, gL50, hmL50⟩ : ∃ q, GrowL mN 23 (slc b76_1 0 1 1) [toSl rq46 ((rl.getD 0 sl0).2)] q ∧ Mem w50 RM35 (q ++ [(b64, .cells #[(ptr bd 0), (i64 (sz - fr0)), (i64 sz), (u64 (newB ls ps)), (Value.slice none 0 0), (i64 (blocksN (((rl.getD 0 sl0).2).length) : Int))] 100 (0, 0))]) := ⟨_, GrowL.of1 (Grow.toSl ((rl.getD 0 sl0).2) grq46) (el_grow grq46), (by
           have hT := hm53
           try simp only [List.append_assoc, List.cons_append, List.nil_append, List.append_nil] at hT ⊢
           exact hT)⟩
         refine ⟨⟨_, hmL50⟩, ?_⟩
         refine dw_nil (fun w54 _ew54 => ?_)
         have hm54 := hmL50.ext _ew54
         have hX55 := hm54
         rw [hRM35] at hX55
         have hm56 : Mem w54 R (HL50 ++ ([(b64, .cells #[(ptr bd 0), (i64 (sz - fr0)), (i64 sz), (u64 (newB ls ps)), (Value.slice none 0 0), (i64 (blocksN (((rl.getD 0 sl0).2).length) : Int))] 100 (0, 0)), (bd, .cells #[vl, vp] 94 (0, 0))] ++ (Hl ++ (Hp ++ ([]))))) := (by
           have hT := Mem.back hFM35 hX55
           try simp only [List.append_assoc, List.cons_append, List.nil_append, List.append_nil] at hT ⊢
           exact hT)
         refine rw_q rfl (ev_nilCheck rfl) <| rw_q rfl (ev_fa (r := 1) uT100 rfl (by first | rfl | omega) ti97 rfl rfl) <| rw_q rfl (ev_fa (r := 4) uT97 rfl (by first | rfl | omega) ti22 rfl rfl) <| rw_n (or_store1 ti22 rfl rfl gL50.one ((Mem.pick HL50 [_] _ hm56)).h0 (by simp) (.inl (Nat.zero_le _))) ?_
         rintro _ w57 uq57
         have hm57 : Mem w57 R ([(b64, .cells #[(ptr bd 0), (i64 (sz - fr0)), (i64 sz), (u64 (newB ls ps)), (slc b76_1 0 1 1), (i64 (blocksN (((rl.getD 0 sl0).2).length) : Int))] 100 (0, 0))] ++ (HL50 ++ ([(bd, .cells #[vl, vp] 94 (0, 0))] ++ (Hl ++ (Hp ++ ([])))))) := Mem.upd0 (Mem.pick HL50 [_] _ hm56) uq57
         refine rN ?_
         exact ⟨(slc b76_1 0 1 1), [toSl rq46 ((rl.getD 0 sl0).2)], HL50, (by rw [List.map_take.symm, getD_take1 (d := sl0) h1.1]; simp [toSl_snd]), rfl, gL50, s0, s1, s4, s5, s6, s9, s10, s13, s14, s15, s16, s40, (by rw [room_one (by simp; omega), ← hg0]; exact hm57)⟩
     · rintro fr58 w59 ⟨vr1, rs1, Hr1, hM1, hL1, gr1, s0, s1, s4, s5, s6, s9, s10, s13, s14, s15, s16, s40, hm59⟩
       refine cw_seq (sR ?_)
       refine rM rfl s1 <| rw_q rfl (ev_slice_rd (i := 1) (j := (rl.length : Int)) (RdL.row (RdL.ofRest (R := R) hrl hm59)) uT22 ti23 rfl (optI_some (k := .i64) (i := 1) rfl) (optI_none _ _) oM sL sL) <| rw_q (v := (i64 ((rl.drop 1).length : Int))) rfl (ev_len_rd (RdL.row (RdL.tail (RdL.ofRest (R := R) hrl hm59) sL)) uT22 rfl) <| rw_q rfl (ev_move (v := (i64 0)) rfl) ?_
       refine rN (cw_block ?_)
       refine cw_loop (fun g wv => ∃ (k2 : Nat) (vr2 : Value) (rs2 : List SlT) (Hr2 : List (Nat × Obj)) (vp2 : Value) (Hp2 : List (Nat × Obj)), (k2 + 1 ≤ rl.length) ∧ (rs2.map (·.2) = (rl.map (·.2)).take (k2 + 1)) ∧ (rs2.length = k2 + 1) ∧ (GrowL mN 23 vr2 rs2 Hr2) ∧ (GrowK encW 65 104 vp2 (layK ls ps (sz - fr0) (newB ls ps) (rl.map (·.2)) k2) Hp2) ∧ g 0 = (ptr bj 0) ∧ g 1 = vL ∧ g 4 = (Value.pointer none) ∧ g 5 = (i64 0) ∧ g 6 = (i64 (roomB (rl.map (·.2)) : Int)) ∧ g 9 = (u64 (newB ls ps)) ∧ g 10 = (ptr b64 0) ∧ g 13 = vL ∧ g 14 = (i64 (rl.length : Int)) ∧ g 15 = (i64 (k : Int)) ∧ g 16 = (bl (decide ((k : Int) < (rl.length : Int)))) ∧ g 40 = (bl ((newB ls ps) == 0#64)) ∧ g 84 = (subv vL 1 (rl.length : Int)) ∧ g 85 = (i64 ((rl.drop 1).length : Int)) ∧ g 86 = (i64 (k2 : Int)) ∧ Mem wv R ([(b64, .cells #[(ptr bd 0), (i64 (sz - fr0)), (i64 sz), (u64 (newB ls ps)), vr2, (i64 (roomB ((rl.map (·.2)).take (k2 + 1)) : Int))] 100 (0, 0))] ++ (Hr2 ++ ([(bd, .cells #[vl, vp2] 94 (0, 0))] ++ (Hl ++ (Hp2 ++ ([]))))))) (fun g wv => ((rl.length : Int) - 1 - RowKit.intOf (g 86)).toNat) ?_ ?_
       · exact ⟨0, vr1, rs1, Hr1, vp, Hp, oM, hM1, hL1, gr1, (GrowK.cast gp layK_0), s0, s1, s4, s5, s6, s9, s10, s13, s14, s15, s16, s40, rfl, rfl, rfl, (by
         have hT := hm59
         try simp only [List.append_assoc, List.cons_append, List.nil_append, List.append_nil] at hT ⊢
         exact hT)⟩
       · rintro fr60 w61 ⟨k2, vr2, rs2, Hr2, vp2, Hp2, hk, hM2, hL2, gr2, gp2, s0, s1, s4, s5, s6, s9, s10, s13, s14, s15, s16, s40, s84, s85, s86, hm61⟩
         have z86 := s86
         refine sR <| rw_q rfl (ev_i64_lss s86 s85) ?_
         refine rN (cw_seq ?_)
         refine cw_cond rfl (fun hc62 => ?_) (fun hc62 => ?_)
         · -- true
           have hc62p := of_decide_eq_true hc62
           have hgk : ((rl.drop 1).getD k2 sl0).2 = (rl.map (·.2)).getD (k2 + 1) [] := by rw [getD_drop1]; exact snd_getD rfl oM
           have hre1 := hre _ (getD_mem (d := sl0) (show k2 + 1 < rl.length by omega))
           rw [← getD_drop1] at hre1
           have hrs1 := roomT_S (L := (rl.map (·.2))) (k := k2 + 1) (by simp; omega)
           have hbp := blocksN_pos ((rl.drop 1).getD k2 sl0).2.length
           have hrt2 := roomT_le (L := (rl.map (·.2))) (k2 + 1)
           have hlk := layK_len (ls := ls) (ps := ps) (fr := (sz - fr0)) (g := (newB ls ps)) (L := (rl.map (·.2))) k2 (by simp; omega)
           refine cw_skip (kThen_normal (cw_seq (cw_block (sR ?_))))
           refine rw_q rfl (ev_indexAddr_rdv (RdL.row (RdL.tail (RdL.ofRest (R := R) hrl hm61) sL)) uT22 ti23 s84 s86 oM sL) <| rw_q (v := (slv ((rl.drop 1).getD k2 sl0))) rfl (ev_load_rdD (l := (rl.drop 1)) (i := (k2 : Int)) (dflt := sl0) (RdL.row (RdL.tail (RdL.ofRest (R := R) hrl hm61) sL)) uT23 rfl oM sL rfl) <| rw_q rfl (ev_assign (v := (slv ((rl.drop 1).getD k2 sl0))) rfl) ?_
           refine rN (cw_region ?_)
           refine rM rfl s10 <| rw_q rfl (ev_move (v := (slv ((rl.drop 1).getD k2 sl0))) rfl) ?_
           have hF64 : Mem w61 R (([(b64, .cells #[(ptr bd 0), (i64 (sz - fr0)), (i64 sz), (u64 (newB ls ps)), vr2, (i64 (roomB ((rl.map (·.2)).take (k2 + 1)) : Int))] 100 (0, 0))] ++ (Hr2 ++ ([(bd, .cells #[vl, vp2] 94 (0, 0))] ++ (Hl ++ (Hp2 ++ ([])))))) ++ ([])) := by
             have hT := (Mem.pick4 Hr2 [_] Hl Hp2 [_] _ (Mem.pick4 [_] Hl Hp2 [_] Hr2 _ (Mem.pick4 Hl Hp2 [_] Hr2 [_] _ (Mem.pick4 Hp2 [_] Hr2 [_] Hl _ (Mem.pick4 [_] Hr2 [_] Hl Hp2 _ hm61)))))
             try simp only [List.append_assoc, List.cons_append, List.nil_append, List.append_nil] at hT ⊢
             exact hT
           refine rw_c rfl (opR_call Try.func52 bd52 nm52 (args2 rfl rfl) (c_jlay b64 (sz - fr0) sz (newB ls ps) vr2 rs2 Hr2 (roomB ((rl.map (·.2)).take (k2 + 1)) : Int) bd vl ls Hl vp2 (layK ls ps (sz - fr0) (newB ls ps) (rl.map (·.2)) k2) Hp2 (slv ((rl.drop 1).getD k2 sl0)) (((rl.drop 1).getD k2 sl0).2) _ _ (Mem.give hF64) gr2 gl gp2 (RdL.get (k := k2) (RdL.tail (RdL.addRest hF64 hrl) sL) sL) sL sL sL sL sL)) ?_
           rintro _ w63 ⟨vr2q65, rs2q65, Hr2q65, vp2q65, Hp2q65, rfl, hMq65, hLq65, gr2q65, gp2q65, k_w63⟩
           have hm63 : Mem w63 R ([(b64, .cells #[(ptr bd 0), (i64 (sz - fr0)), (i64 sz), (u64 (newB ls ps)), vr2q65, (i64 ((roomB ((rl.map (·.2)).take (k2 + 1)) : Int) + (blocksN (((rl.drop 1).getD k2 sl0).2).length : Int)))] 100 (0, 0))] ++ (Hr2q65 ++ ([(bd, .cells #[vl, vp2q65] 94 (0, 0))] ++ (Hl ++ (Hp2q65 ++ ([])))))) := (by
             have hT := Mem.back hF64 k_w63
             try simp only [List.append_assoc, List.cons_append, List.nil_append, List.append_nil] at hT ⊢
             exact hT)
           refine rw_nil (kBlk_normal (cw_region ?_))
           refine rw_q rfl (ev_i64_add (b := 1) s86 rfl oM oM) <| rw_q rfl (ev_move (v := (i64 ((k2 : Int) + 1))) rfl) <| rN ?_
           exact ⟨⟨(k2 + 1), vr2q65, rs2q65, Hr2q65, vp2q65, Hp2q65, oM, (by rw [hMq65, hM2, hgk, take_snoc (by simp; omega)]), oM, gr2q65, (GrowK.cast gp2q65 (layK_S hgk oM)), s0, s1, s4, s5, s6, s9, s10, s13, s14, s15, s16, s40, s84, s85, rfl, (by rw [hrs1, ← hgk]; push_cast; exact hm63)⟩, meas rfl z86 oM oM⟩
         · -- false
           have hc62p := of_decide_eq_false hc62
           have hkk : k2 = rl.length - 1 := by omega
           have hrt2 := roomT_le (L := (rl.map (·.2))) (k2 + 1)
           have hlk := layK_len (ls := ls) (ps := ps) (fr := (sz - fr0)) (g := (newB ls ps)) (L := (rl.map (·.2))) k2 (by simp; omega)
           have hcl := crashB_len' (ls := ls) (ps := layK ls ps (sz - fr0) (newB ls ps) (rl.map (·.2)) k2) (q := [1#8])
           refine cw_exit ?_
           refine kThen_exit (kThen_exit (kBlk_hit ?_))
           refine cw_seq (sR ?_)
           refine rM rfl s1 <| rw_q (v := (i64 (rl.length : Int))) rfl (ev_len_rd (RdL.row (RdL.ofRest (R := R) hrl hm61)) uT22 rfl) <| rw_q rfl (ev_i64_gtr (b := 1) rfl rfl) <| rN ?_
           refine cw_cond rfl (fun hc66 => ?_) (fun hc66 => ?_)
           · -- true
             have hc66p := of_decide_eq_true hc66
             refine cw_region <| rM rfl s10 <| rw_q rfl (ev_nilCheck rfl) <| rw_q rfl (ev_fa (r := 0) uT100 rfl (by first | rfl | omega) ti25 rfl rfl) <| rw_q (v := (ptr bd 0)) rfl (ev_load1 uT25 rfl rfl hm61.h0 rfl) ?_
             have hF68 : Mem w61 R (([(bd, .cells #[vl, vp2] 94 (0, 0))] ++ (Hl ++ (Hp2 ++ ([])))) ++ ([(b64, .cells #[(ptr bd 0), (i64 (sz - fr0)), (i64 sz), (u64 (newB ls ps)), vr2, (i64 (roomB ((rl.map (·.2)).take (k2 + 1)) : Int))] 100 (0, 0))] ++ (Hr2 ++ ([])))) := by
               have hT := (Mem.pick4 Hl Hp2 [_] Hr2 [_] _ (Mem.pick4 Hp2 [_] Hr2 [_] Hl _ (Mem.pick4 [_] Hr2 [_] Hl Hp2 _ hm61)))
               try simp only [List.append_assoc, List.cons_append, List.nil_append, List.append_nil] at hT ⊢
               exact hT
             refine rw_c rfl (opR_call Try.func46 bd46 nm46 (args1 rfl) (c_dsync bd vl ls Hl vp2 (layK ls ps (sz - fr0) (newB ls ps) (rl.map (·.2)) k2) Hp2 _ _ (Mem.give hF68) gl gp2 (okP_hat (okP_lay hok _)) sL sL)) ?_
             rintro _ w67 ⟨Hl2q69, rfl, gl2q69, k_w67⟩
             have hm67 : Mem w67 R ([(bd, .cells #[vl, (Value.slice none 0 0)] 94 (0, 0))] ++ (Hl2q69 ++ ([(b64, .cells #[(ptr bd 0), (i64 (sz - fr0)), (i64 sz), (u64 (newB ls ps)), vr2, (i64 (roomB ((rl.map (·.2)).take (k2 + 1)) : Int))] 100 (0, 0))] ++ (Hr2 ++ ([]))))) := (by
               have hT := Mem.back hF68 k_w67
               try simp only [List.append_assoc, List.cons_append, List.nil_append, List.append_nil] at hT ⊢
               exact hT)
             refine rN (sR ?_)
             refine rM rfl s10 <| rM rfl s1 <| rw_q rfl (ev_indexAddr_rdv (i := 0) (RdL.row (RdL.ofRest (R := R) hrl hm67)) uT22 ti23 rfl rfl oM sL) <| rw_q (v := (slv (rl.getD 0 sl0))) rfl (ev_load_rdD (l := rl) (i := 0) (dflt := sl0) (RdL.row (RdL.ofRest (R := R) hrl hm67)) uT23 rfl oM sL rfl) ?_
             have hF71 : Mem w67 R (([(bd, .cells #[vl, (Value.slice none 0 0)] 94 (0, 0))] ++ (Hl2q69 ++ ([] ++ ([])))) ++ ([(b64, .cells #[(ptr bd 0), (i64 (sz - fr0)), (i64 sz), (u64 (newB ls ps)), vr2, (i64 (roomB ((rl.map (·.2)).take (k2 + 1)) : Int))] 100 (0, 0))] ++ (Hr2 ++ ([])))) := by
               have hT := (Mem.pick Hl2q69 [_] _ (Mem.pick [_] Hl2q69 _ hm67))
               try simp only [List.append_assoc, List.cons_append, List.nil_append, List.append_nil] at hT ⊢
               exact hT
             refine rw_c rfl (opR_call Try.func72 bd72 nm72 (args4 rfl rfl rfl rfl) (c_jwrite bd vl (crashB ls (layK ls ps (sz - fr0) (newB ls ps) (rl.map (·.2)) k2) [1#8]) Hl2q69 (Value.slice none 0 0) ([]) ([]) b64 (sz - fr0) sz (newB ls ps) vr2 (roomB ((rl.map (·.2)).take (k2 + 1)) : Int) (0 : Int) (0 : Int) (slv (rl.getD 0 sl0)) ((rl.getD 0 sl0).2) _ _ (Mem.give hF71) gl2q69 (GrowK.none encW 65 104) (Mem.addOwn hF71 (List.mem_append_left _ (List.Mem.head _))) (RdL.get (k := 0) (RdL.addRest hF71 hrl) sL) sL sL sL sL)) ?_
             rintro _ w70 ⟨vp2q72, Hp2q72, rfl, gp2q72, k_w70⟩
             have hm70 : Mem w70 R ([(bd, .cells #[vl, vp2q72] 94 (0, 0))] ++ (Hl2q69 ++ (Hp2q72 ++ ([(b64, .cells #[(ptr bd 0), (i64 (sz - fr0)), (i64 sz), (u64 (newB ls ps)), vr2, (i64 (roomB ((rl.map (·.2)).take (k2 + 1)) : Int))] 100 (0, 0))] ++ (Hr2 ++ ([])))))) := (by
               have hT := Mem.back hF71 k_w70
               try simp only [List.append_assoc, List.cons_append, List.nil_append, List.append_nil] at hT ⊢
               exact hT)
             refine rN (sR ?_)
             refine rM rfl s10 <| rw_q rfl (ev_assign (v := (ptr b64 0)) rfl) <| rw_q rfl (ev_assign (v := (i64 0)) rfl) <| rN ?_
             refine CW.abs (fun g => g 0 = (ptr bj 0) ∧ g 1 = vL ∧ g 4 = (ptr b64 0) ∧ g 5 = (i64 0) ∧ g 6 = (i64 (roomB (rl.map (·.2)) : Int)) ∧ g 9 = (u64 (newB ls ps)) ∧ g 10 = (ptr b64 0) ∧ g 13 = vL ∧ g 14 = (i64 (rl.length : Int)) ∧ g 15 = (i64 (k : Int)) ∧ g 16 = (bl (decide ((k : Int) < (rl.length : Int)))) ∧ g 40 = (bl ((newB ls ps) == 0#64)) ∧ g 84 = (subv vL 1 (rl.length : Int)) ∧ g 85 = (i64 ((rl.drop 1).length : Int)) ∧ g 86 = (i64 (k2 : Int)) ∧ g 87 = (bl (decide ((k2 : Int) < ((rl.drop 1).length : Int)))) ∧ g 96 = (bl (decide (1 < (rl.length : Int)))) ∧ True) ⟨s0, s1, rfl, rfl, s6, s9, s10, s13, s14, s15, s16, s40, s84, s85, s86, rfl, rfl, trivial⟩ ?_
             rintro fr73 ⟨s0, s1, s4, s5, s6, s9, s10, s13, s14, s15, s16, s40, s84, s85, s86, s87, s96, _⟩
             refine cw_ret <| fnPost_ret [(ptr b64 0), (i64 0)] ⟨s4, s5, trivial⟩ ?_
             have hm74 := (Mem.pick2 [_] Hl2q69 Hp2q72 _ hm70)
             have hm75 := (Mem.pick2 Hp2q72 [_] Hl2q69 _ hm74)
             have hm76 := (Mem.pick2 Hl2q69 Hp2q72 [_] _ hm75)
             have hm77 := (Mem.pick4 [_] Hl2q69 Hp2q72 [_] Hr2 _ hm76)
             have hm78 := (Mem.pick4 Hr2 [_] Hl2q69 Hp2q72 [_] _ hm77)
             have hml : ((rl.map (·.2)).length : Int) = (rl.length : Int) := by simp
             have hif := of_decide_eq_true hc66
             have hTL : (turnL ls ps (sz - fr0) (newB ls ps) (rl.map (·.2))) = crashB ls (layK ls ps (sz - fr0) (newB ls ps) (rl.map (·.2)) k2) [1#8] := by unfold turnL; rw [if_pos (by rw [hml]; exact hif)]; rw [List.length_map, ← hkk]
             have hTP : (turnP ls ps (sz - fr0) (newB ls ps) (rl.map (·.2))) = writeK (crashB ls (layK ls ps (sz - fr0) (newB ls ps) (rl.map (·.2)) k2) [1#8]) ([]) ((sz - fr0) + (0 : Int)) (newB ls ps) (BitVec.ofInt 64 (0 : Int)) ((rl.getD 0 sl0).2) (blocksN ((rl.getD 0 sl0).2).length) := by unfold turnP; rw [hTL, if_pos (by rw [hml]; exact hif), ← hg0]
             have hfull : rs2.map (·.2) = (rl.map (·.2)) := by rw [hM2, List.take_of_length_le (by simp; omega)]
             have hrf : (roomB ((rl.map (·.2)).take (k2 + 1)) : Int) = (roomB (rl.map (·.2)) : Int) := by rw [List.take_of_length_le (by simp; omega)]
             rw [hTL, hTP]
             have hm79 := hm78
             rw [hrf] at hm79
             exact ⟨b64, vr2, rs2, Hr2, Hl2q69, vp2q72, Hp2q72, rfl, hfull, oM, gr2, gl2q69, gp2q72, (by
               have hT := hm79
               try simp only [List.append_assoc, List.cons_append, List.nil_append, List.append_nil] at hT ⊢
               exact hT)⟩
           · -- false
             have hc66p := of_decide_eq_false hc66
             refine cw_skip (kThen_normal (sR ?_))
             refine rM rfl s10 <| rM rfl s1 <| rw_q rfl (ev_indexAddr_rdv (i := 0) (RdL.row (RdL.ofRest (R := R) hrl hm61)) uT22 ti23 rfl rfl oM sL) <| rw_q (v := (slv (rl.getD 0 sl0))) rfl (ev_load_rdD (l := rl) (i := 0) (dflt := sl0) (RdL.row (RdL.ofRest (R := R) hrl hm61)) uT23 rfl oM sL rfl) ?_
             have hF81 : Mem w61 R (([(bd, .cells #[vl, vp2] 94 (0, 0))] ++ (Hl ++ (Hp2 ++ ([])))) ++ ([(b64, .cells #[(ptr bd 0), (i64 (sz - fr0)), (i64 sz), (u64 (newB ls ps)), vr2, (i64 (roomB ((rl.map (·.2)).take (k2 + 1)) : Int))] 100 (0, 0))] ++ (Hr2 ++ ([])))) := by
               have hT := (Mem.pick4 Hl Hp2 [_] Hr2 [_] _ (Mem.pick4 Hp2 [_] Hr2 [_] Hl _ (Mem.pick4 [_] Hr2 [_] Hl Hp2 _ hm61)))
               try simp only [List.append_assoc, List.cons_append, List.nil_append, List.append_nil] at hT ⊢
               exact hT
             refine rw_c rfl (opR_call Try.func72 bd72 nm72 (args4 rfl rfl rfl rfl) (c_jwrite bd vl ls Hl vp2 (layK ls ps (sz - fr0) (newB ls ps) (rl.map (·.2)) k2) Hp2 b64 (sz - fr0) sz (newB ls ps) vr2 (roomB ((rl.map (·.2)).take (k2 + 1)) : Int) (0 : Int) (0 : Int) (slv (rl.getD 0 sl0)) ((rl.getD 0 sl0).2) _ _ (Mem.give hF81) gl gp2 (Mem.addOwn hF81 (List.mem_append_left _ (List.Mem.head _))) (RdL.get (k := 0) (RdL.addRest hF81 hrl) sL) sL sL sL sL)) ?_
             rintro _ w80 ⟨vp2q82, Hp2q82, rfl, gp2q82, k_w80⟩
             have hm80 : Mem w80 R ([(bd, .cells #[vl, vp2q82] 94 (0, 0))] ++ (Hl ++ (Hp2q82 ++ ([(b64, .cells #[(ptr bd 0), (i64 (sz - fr0)), (i64 sz), (u64 (newB ls ps)), vr2, (i64 (roomB ((rl.map (·.2)).take (k2 + 1)) : Int))] 100 (0, 0))] ++ (Hr2 ++ ([])))))) := (by
               have hT := Mem.back hF81 k_w80
               try simp only [List.append_assoc, List.cons_append, List.nil_append, List.append_nil] at hT ⊢
               exact hT)
             refine rN (sR ?_)
             refine rM rfl s10 <| rw_q rfl (ev_assign (v := (ptr b64 0)) rfl) <| rw_q rfl (ev_assign (v := (i64 0)) rfl) ?_
             refine rN (cw_ret ?_)
             refine fnPost_ret [(ptr b64 0), (i64 0)] ⟨rfl, rfl, trivial⟩ ?_
             have hm83 := (Mem.pick2 [_] Hl Hp2q82 _ hm80)
             have hm84 := (Mem.pick2 Hp2q82 [_] Hl _ hm83)
             have hm85 := (Mem.pick2 Hl Hp2q82 [_] _ hm84)
             have hm86 := (Mem.pick4 [_] Hl Hp2q82 [_] Hr2 _ hm85)
             have hm87 := (Mem.pick4 Hr2 [_] Hl Hp2q82 [_] _ hm86)
             have hml : ((rl.map (·.2)).length : Int) = (rl.length : Int) := by simp
             have hif := of_decide_eq_false hc66
             have hTL : (turnL ls ps (sz - fr0) (newB ls ps) (rl.map (·.2))) = ls := by unfold turnL; rw [if_neg (by rw [hml]; exact hif)]
             have hTP : (turnP ls ps (sz - fr0) (newB ls ps) (rl.map (·.2))) = writeK ls (layK ls ps (sz - fr0) (newB ls ps) (rl.map (·.2)) k2) ((sz - fr0) + (0 : Int)) (newB ls ps) (BitVec.ofInt 64 (0 : Int)) ((rl.getD 0 sl0).2) (blocksN ((rl.getD 0 sl0).2).length) := by unfold turnP; rw [hTL, if_neg (by rw [hml]; exact hif), ← hg0, List.length_map, ← hkk]
             have hfull : rs2.map (·.2) = (rl.map (·.2)) := by rw [hM2, List.take_of_length_le (by simp; omega)]
             have hrf : (roomB ((rl.map (·.2)).take (k2 + 1)) : Int) = (roomB (rl.map (·.2)) : Int) := by rw [List.take_of_length_le (by simp; omega)]
             rw [hTL, hTP]
             have hm88 := hm87
             rw [hrf] at hm88
             exact ⟨b64, vr2, rs2, Hr2, Hl, vp2q82, Hp2q82, rfl, hfull, oM, gr2, gl, gp2q82, (by
               have hT := hm88
               try simp only [List.append_assoc, List.cons_append, List.nil_append, List.append_nil] at hT ⊢
               exact hT)⟩


end Go.Proofs.Ytfbnhoolkajebaa
