/- Blocks of records: plain law; contracts of bytes and write. Conditions: none beyond those that each theorem states. -/
import Derived.Test.YtfbnhoolkajebaaJo1
namespace Go.Proofs.Ytfbnhoolkajebaa
set_option linter.unusedVariables false
set_option linter.unusedSimpArgs false
/-! ### Blocks, plainly -/
def markB (g r p : BitVec 64) : List (BitVec 8) := putB g 4 ++ (putB r 4 ++ putB p 2)
theorem markB_len (g r p : BitVec 64) : (markB g r p).length = 10 := by simp [markB, putB_len]
def placeF (n k : Nat) : BitVec 64 := if k + 1 = n then BitVec.ofInt 64 (k : Int) ||| 32768#64 else BitVec.ofInt 64 (k : Int)
theorem place_t {n k : Nat} (h : ((k : Int) == (n : Int) - 1) = true) : BitVec.ofInt 64 (k : Int) ||| 32768#64 = placeF n k := by
  have : (k : Int) = (n : Int) - 1 := by simpa using h
  unfold placeF; rw [if_pos oM]
theorem place_f {n k : Nat} (h : ((k : Int) == (n : Int) - 1) = false) : BitVec.ofInt 64 (k : Int) = placeF n k := by
  have : (k : Int) ≠ (n : Int) - 1 := by simpa using h
  unfold placeF; rw [if_neg oM]
def partB (b : List (BitVec 8)) (k : Nat) : List (BitVec 8) := (b.drop (42 * k)).take 42
theorem partB_len (b : List (BitVec 8)) (k : Nat) : (partB b k).length ≤ 42 := by unfold partB; simp; omega
theorem part_eq {b : List (BitVec 8)} {k : Nat} (h : k < blocksN b.length) : (b.drop (min ((k : Int) * 42) (b.length : Int)).toNat).take ((min (((k : Int) + 1) * 42) (b.length : Int)).toNat - (min ((k : Int) * 42) (b.length : Int)).toNat) = partB b k := by
  have h0 : 42 * k ≤ b.length := by unfold blocksN at h; omega
  have e0 : (min ((k : Int) * 42) (b.length : Int)).toNat = 42 * k := by omega
  unfold partB
  rw [e0, List.take_eq_take_iff, List.length_drop]
  omega
def rawB (m part : List (BitVec 8)) : List (BitVec 8) := m ++ (putB (BitVec.ofInt 64 (part.length : Int)) 2 ++ (part ++ (List.replicate (42 - part.length) 0 ++ m)))
theorem rawB_len {m part : List (BitVec 8)} (hm : m.length = 10) (hp : part.length ≤ 42) : (rawB m part).length = 64 := by simp [rawB, hm, putB_len]; omega
theorem raw_eq {m part c1 c2 c3 : List (BitVec 8)} (hm : m.length = 10) (hp : part.length ≤ 42)
    (h1 : c1 = (m ++ putB (BitVec.ofInt 64 (part.length : Int)) 2) ++ (List.replicate 64 0#8).drop (m ++ putB (BitVec.ofInt 64 (part.length : Int)) 2).length)
    (h2 : c2 = c1.take 12 ++ (part ++ c1.drop (12 + part.length))) (h3 : c3 = c2.take 54 ++ (m ++ c2.drop (54 + m.length))) : c3 = rawB m part := by
  have l2 : (m ++ putB (BitVec.ofInt 64 (part.length : Int)) 2).length = 12 := by simp [hm, putB_len]
  have e1 : c1 = (m ++ putB (BitVec.ofInt 64 (part.length : Int)) 2) ++ List.replicate 52 0#8 := by rw [h1, l2, List.drop_replicate]
  have e2 : c2 = (m ++ putB (BitVec.ofInt 64 (part.length : Int)) 2) ++ (part ++ List.replicate (52 - part.length) 0#8) := by
    rw [h2, e1, List.take_left' l2, ← List.drop_drop, List.drop_left' l2, List.drop_replicate]
  have e3 : c2 = ((m ++ putB (BitVec.ofInt 64 (part.length : Int)) 2) ++ (part ++ List.replicate (42 - part.length) 0#8)) ++ List.replicate 10 0#8 := by
    rw [e2]
    have : List.replicate (52 - part.length) 0#8 = List.replicate (42 - part.length) 0#8 ++ List.replicate 10 0#8 := by rw [List.replicate_append_replicate]; congr 1; omega
    rw [this]; simp only [List.append_assoc]
  have l3 : ((m ++ putB (BitVec.ofInt 64 (part.length : Int)) 2) ++ (part ++ List.replicate (42 - part.length) 0#8)).length = 54 := by
    rw [List.length_append, l2, List.length_append, List.length_replicate]; omega
  rw [h3, e3, List.take_left' l3, ← List.drop_drop, List.drop_left' l3, hm]
  unfold rawB
  simp [List.append_assoc]
def blkOf (g r : BitVec 64) (n : Nat) (b : List (BitVec 8)) (k : Nat) : List (BitVec 8) := rawB (markB g r (placeF n k)) (partB b k)
theorem blkOf_len {g r : BitVec 64} {n : Nat} {b : List (BitVec 8)} {k : Nat} : (blkOf g r n b k).length = 64 := rawB_len (markB_len _ _ _) (partB_len _ _)
/-- The writes of a record. -/
def writeK (ls : List (List (BitVec 8))) (ps : List WriteT) (pos : Int) (g r : BitVec 64) (b : List (BitVec 8)) : Nat → List WriteT
  | 0 => ps
  | k + 1 => pushB ls (writeK ls ps pos g r b k) (pos + (k : Int)) (blkOf g r (blocksN b.length) b k)
theorem writeK_len {ls : List (List (BitVec 8))} {ps : List WriteT} {pos : Int} {g r : BitVec 64} {b : List (BitVec 8)} : ∀ k, (writeK ls ps pos g r b k).length ≤ ps.length + k
  | 0 => Nat.le_refl _
  | k + 1 => by
    have := writeK_len (ls := ls) (ps := ps) (pos := pos) (g := g) (r := r) (b := b) k
    show (pushB _ _ _ _).length ≤ _
    unfold pushB; split
    · rw [List.length_append]; simp; omega
    · omega
theorem blocksN_pos (n : Nat) : 1 ≤ blocksN n ∧ blocksN n ≤ n + 1 := by unfold blocksN; omega
attribute [simp] putB_len markB_len blkOf_len
theorem part_eq' {b : List (BitVec 8)} {k : Nat} (h : k < blocksN b.length) :
    (b.drop (if (b.length : Int) < (k : Int) * 42 then (b.length : Int) else (k : Int) * 42 : Int).toNat).take ((if (b.length : Int) < ((k : Int) + 1) * 42 then (b.length : Int) else ((k : Int) + 1) * 42 : Int).toNat - (if (b.length : Int) < (k : Int) * 42 then (b.length : Int) else (k : Int) * 42 : Int).toNat) = partB b k := by
  have e0 : (if (b.length : Int) < (k : Int) * 42 then (b.length : Int) else (k : Int) * 42 : Int) = min ((k : Int) * 42) (b.length : Int) := by split <;> omega
  have e1 : (if (b.length : Int) < ((k : Int) + 1) * 42 then (b.length : Int) else ((k : Int) + 1) * 42 : Int) = min (((k : Int) + 1) * 42) (b.length : Int) := by split <;> omega
  rw [e0, e1]; exact part_eq h
theorem blocksN_le {n k : Nat} (h : k < blocksN n) : 42 * k ≤ n := by unfold blocksN at h; omega
section
variable {ls : List (List (BitVec 8))} {ps : List WriteT} {pos : Int} {g r : BitVec 64} {b : List (BitVec 8)} {n k : Nat}
theorem writeK_0 : ps = writeK ls ps pos g r b 0 := rfl
theorem writeK_S : pushB ls (writeK ls ps pos g r b k) (pos + (k : Int)) (blkOf g r (blocksN b.length) b k) = writeK ls ps pos g r b (k + 1) := rfl
theorem blk_fold : rawB (markB g r (placeF n k)) (partB b k) = blkOf g r n b k := rfl
end
theorem strOf_beq (la lb : List (BitVec 8)) : decide (strOf la = strOf lb) = (la == lb) := by
  have e : strOf la = strOf lb ↔ la = lb := by
    unfold strOf
    constructor
    · intro h
      have h1 := congrArg (fun b : ByteArray => b.data.toList.map UInt8.toBitVec) h
      simpa [Function.comp_def] using h1
    · intro h; rw [h]
  rw [Bool.eq_iff_iff, decide_eq_true_eq, beq_iff_eq, e]
attribute [local irreducible] crashB crashK pushB readB inB errB cutN seenW
attribute [local irreducible] markB putB getB getK partB placeF blkOf rawB writeK blocksN
set_option maxHeartbeats 2000000 in
theorem c_beq (va vb : Value) (la lb : List (BitVec 8)) (w0 : World)  (hra : Rd (blks w0) u8 va la) (hrb : Rd (blks w0) u8 vb lb) : CallsR Try.prog 85 #[va, vb] w0 (fun r w1 => r = (bl (la == lb)) ∧ Ext w0 w1) := by
 refine callsR_of_cw (args := [va, vb]) Try.func85 rfl Try.ntmps85 Try.results85 rfl ?_
 have hm0 : Mem w0 (restOf w0) [] := Mem.of_world w0
 refine sR <| rw_q rfl (ev_assign (v := (bl false)) rfl) ?_
 refine rN (sR ?_)
 refine rM rfl (v := va) rfl <| rw_q rfl (ev_b2s (l := la) (Rd.ofRest hra hm0) uT23 uT5 uT9 rfl) <| rM rfl (v := vb) rfl <| rw_q rfl (ev_b2s (l := lb) (Rd.ofRest hrb hm0) uT23 uT5 uT9 rfl) <| rw_q rfl (ev_str_eql (s := (strOf la)) (t := (strOf lb)) rfl rfl) <| rw_q rfl (ev_assign (v := (bl (decide ((strOf la) = (strOf lb))))) rfl) ?_
 refine rN (cw_ret ?_)
 refine fnPost_ret [(bl (decide ((strOf la) = (strOf lb))))] ⟨rfl, trivial⟩ ?_
 exact ⟨congrArg bl (strOf_beq la lb), hm0.toExt⟩

set_option maxHeartbeats 2000000 in
theorem c_jbytes (g r p : BitVec 64) (w0 : World)   : CallsR Try.prog 87 #[(Value.agg #[(u64 g), (u64 r), (u64 p)])] w0 (fun r1 w1 => ∃ Hs, Grow u8 5 r1 (markB g r p) Hs ∧ Mem w1 (restOf w0) Hs) := by
 refine callsR_of_cw (args := [(Value.agg #[(u64 g), (u64 r), (u64 p)])]) Try.func87 rfl Try.ntmps87 Try.results87 rfl ?_
 have hm0 : Mem w0 (restOf w0) [] := Mem.of_world w0
 refine sR <| rw_c rfl (or_boxX (cs := #[(u64 g), (u64 r), (u64 p)]) hm0 rfl) ?_
 rintro _ w1 ⟨b1, rfl, _ew1, hm1⟩
 refine rw_q rfl (ev_assign (v := (Value.slice none 0 0)) rfl) ?_
 refine rN (cw_seq ?_)
 refine cw_drawE (by kernel_rfl) ?_
 have hFM2 : Mem w1 (restOf w0) ([] ++ [(b1, .cells #[(u64 g), (u64 r), (u64 p)] 145 (0, 0))]) := hm1
 obtain ⟨RM2, hRM2⟩ : ∃ R2, R2 = Rest.add (restOf w0) [(b1, .cells #[(u64 g), (u64 r), (u64 p)] 145 (0, 0))] := ⟨_, rfl⟩
 have M20 : Mem w1 RM2 [] := by rw [hRM2]; exact Mem.give hFM2
 have ho3 : RM2.blk b1 = some (.cells #[(u64 g), (u64 r), (u64 p)] 145 (0, 0)) := by rw [hRM2]; exact Mem.addOwn hFM2 (List.Mem.head _)
 refine re_planM M20 [(0, false), (1, false), (3, false), (4, false), (6, false), (7, false), (2, true), (5, true)] 8 rfl (by kernel_rfl) <| dk_q rfl rfl (fun w _H _hx => ev_fa (r := 0) uT145 rfl (by first | rfl | omega) ti95 rfl rfl) <| dk_q (v := (u64 g)) rfl rfl (fun w _H _hx => ev_load1 uT95 rfl rfl (_hx.rest _ _ ho3) rfl) <| dk_q rfl rfl (fun w _H _hx => ev_fa (r := 1) uT145 rfl (by first | rfl | omega) ti95 rfl rfl) <| dk_q (v := (u64 r)) rfl rfl (fun w _H _hx => ev_load1 uT95 rfl rfl (_hx.rest _ _ ho3) rfl) <| dk_q rfl rfl (fun w _H _hx => ev_fa (r := 2) uT145 rfl (by first | rfl | omega) ti95 rfl rfl) ?_
 refine dk_q (v := (u64 p)) rfl rfl (fun w _H _hx => ev_load1 uT95 rfl rfl (_hx.rest _ _ ho3) rfl) ?_
 refine dk_c rfl rfl (fun w4 _ew4 => ?_)
 have hm4 := M20.ext _ew4
 have hF6 : Mem w4 RM2 (([] ++ ([])) ++ ([])) := by
   have hT := hm4
   try simp only [List.append_assoc, List.cons_append, List.nil_append, List.append_nil] at hT ⊢
   exact hT
 refine OpR.mono (opR_call Try.func86 bd86 nm86 (args3 rfl rfl rfl) (c_jput (Value.slice none 0 0) ([]) ([]) g 4 _ _ (Mem.give hF6) (Grow.none u8 5) sL sL)) ?_
 rintro rq7 w5 ⟨Hsq7, grq7, k_w5⟩
 have hm5 : Mem w5 RM2 (Hsq7 ++ ([])) := (by
   have hT := Mem.back hF6 k_w5
   try simp only [List.append_assoc, List.cons_append, List.nil_append, List.append_nil] at hT ⊢
   exact hT)
 refine ⟨⟨_, hm5⟩, ?_⟩
 refine dk_c rfl rfl (fun w8 _ew8 => ?_)
 have hm8 := hm5.ext _ew8
 have hF10 : Mem w8 RM2 ((Hsq7 ++ ([])) ++ ([])) := by
   have hT := hm8
   try simp only [List.append_assoc, List.cons_append, List.nil_append, List.append_nil] at hT ⊢
   exact hT
 refine OpR.mono (opR_call Try.func86 bd86 nm86 (args3 rfl rfl rfl) (c_jput rq7 (([]) ++ putB g 4) Hsq7 r 4 _ _ (Mem.give hF10) grq7 sL sL)) ?_
 rintro rq11 w9 ⟨Hsq11, grq11, k_w9⟩
 have hm9 : Mem w9 RM2 (Hsq11 ++ ([])) := (by
   have hT := Mem.back hF10 k_w9
   try simp only [List.append_assoc, List.cons_append, List.nil_append, List.append_nil] at hT ⊢
   exact hT)
 refine ⟨⟨_, hm9⟩, ?_⟩
 refine dw_nil (fun w12 _ew12 => ?_)
 have hm12 := hm9.ext _ew12
 have hX13 := hm12
 rw [hRM2] at hX13
 have hm14 : Mem w12 (restOf w0) (Hsq11 ++ ([(b1, .cells #[(u64 g), (u64 r), (u64 p)] 145 (0, 0))])) := (by
   have hT := Mem.back hFM2 hX13
   try simp only [List.append_assoc, List.cons_append, List.nil_append, List.append_nil] at hT ⊢
   exact hT)
 have hF16 : Mem w12 (restOf w0) ((Hsq11 ++ ([])) ++ ([(b1, .cells #[(u64 g), (u64 r), (u64 p)] 145 (0, 0))])) := by
   have hT := hm14
   try simp only [List.append_assoc, List.cons_append, List.nil_append, List.append_nil] at hT ⊢
   exact hT
 refine rw_c rfl (opR_call Try.func86 bd86 nm86 (args3 rfl rfl rfl) (c_jput rq11 ((([]) ++ putB g 4) ++ putB r 4) Hsq11 p 2 _ _ (Mem.give hF16) grq11 sL sL)) ?_
 rintro rq17 w15 ⟨Hsq17, grq17, k_w15⟩
 have hm15 : Mem w15 (restOf w0) (Hsq17 ++ ([(b1, .cells #[(u64 g), (u64 r), (u64 p)] 145 (0, 0))])) := (by
   have hT := Mem.back hF16 k_w15
   try simp only [List.append_assoc, List.cons_append, List.nil_append, List.append_nil] at hT ⊢
   exact hT)
 refine rA rfl (v := rq17) rfl ?_
 refine rN (cw_ret ?_)
 refine fnPost_ret [rq17] ⟨rfl, trivial⟩ ?_
 have hm18 := Mem.drop ([(b1, .cells #[(u64 g), (u64 r), (u64 p)] 145 (0, 0))]) _ (Mem.pick Hsq17 [_] _ hm15)
 exact ⟨Hsq17, Grow.cast grq17 (by unfold markB; simp only [List.nil_append, List.append_assoc]), by simpa using hm18⟩

set_option maxHeartbeats 2000000 in
theorem c_jwrite (bd : Nat) (vl : Value) (ls : List (List (BitVec 8))) (Hl : List (Nat × Obj)) (vp : Value) (ps : List WriteT) (Hp : List (Nat × Obj)) (bj : Nat) (fr0 sz : Int) (ge : BitVec 64) (vr : Value) (ja num pos : Int) (vb : Value) (b : List (BitVec 8)) (w0 : World) (R : Rest) (hm0 : Mem w0 R ([(bd, .cells #[vl, vp] 94 (0, 0))] ++ (Hl ++ (Hp ++ ([]))))) (gl : GrowK (encA u8) 64 83 vl ls Hl) (gp : GrowK encW 65 104 vp ps Hp) (hj : R.blk bj = some (.cells #[ptr bd 0, i64 fr0, i64 sz, u64 ge, vr, i64 ja] 100 (0, 0))) (hb : Rd R.blk u8 vb b) (hll : ls.length ≤ 65536) (hpl : ps.length + b.length ≤ 1048000) (hfr : 0 ≤ fr0 ∧ fr0 ≤ 1048576) (hps : 0 ≤ pos ∧ pos ≤ 1048576) : CallsR Try.prog 72 #[(ptr bj 0), (i64 num), (i64 pos), vb] w0 (fun r w1 => ∃ vp2 Hp2, r = .tuple #[] ∧ GrowK encW 65 104 vp2 (writeK ls ps (fr0 + pos) ge (BitVec.ofInt 64 num) b (blocksN b.length)) Hp2 ∧ Mem w1 R ([(bd, .cells #[vl, vp2] 94 (0, 0))] ++ (Hl ++ (Hp2 ++ ([]))))) := by
 refine callsR_of_cw (args := [(ptr bj 0), (i64 num), (i64 pos), vb]) Try.func72 rfl Try.ntmps72 Try.results72 rfl ?_
 have hbn := blocksN_pos b.length
 refine sR <| rM rfl (v := vb) rfl <| rw_q (v := (i64 (b.length : Int))) rfl (ev_len_rd (Rd.ofRest hb hm0) uT23 rfl) <| rw_c rfl (opR_call Try.func53 bd53 nm53 (args1 rfl) (c_jblocks b.length _ sL)) ?_
 rintro _ w1 ⟨rfl, _ew1⟩
 have hm1 := hm0.ext _ew1
 refine rw_q rfl (ev_assign (v := (i64 (blocksN b.length : Int))) rfl) ?_
 refine rN (sR ?_)
 refine rw_q rfl (ev_move (v := (i64 (blocksN b.length : Int))) rfl) <| rw_q rfl (ev_move (v := (i64 0)) rfl) ?_
 refine rN (cw_block' ?_)
 refine cw_loop (fun g wv => ∃ (k : Nat) (vk : Value) (Hk : List (Nat × Obj)), (k ≤ blocksN b.length) ∧ (GrowK encW 65 104 vk (writeK ls ps (fr0 + pos) ge (BitVec.ofInt 64 num) b k) Hk) ∧ g 0 = (ptr bj 0) ∧ g 1 = (i64 num) ∧ g 2 = (i64 pos) ∧ g 3 = vb ∧ g 8 = (i64 (blocksN b.length : Int)) ∧ g 16 = (i64 (blocksN b.length : Int)) ∧ g 17 = (i64 (k : Int)) ∧ Mem wv R ([(bd, .cells #[vl, vk] 94 (0, 0))] ++ (Hl ++ (Hk ++ ([]))))) (fun g wv => ((blocksN b.length : Int) - RowKit.intOf (g 17)).toNat) ?_ ?_
 · exact ⟨0, vp, Hp, (Nat.zero_le _), (GrowK.cast gp writeK_0), rfl, rfl, rfl, rfl, rfl, rfl, rfl, hm1⟩
 · rintro fr3 w4 ⟨k, vk, Hk, hk, gk, s0, s1, s2, s3, s8, s16, s17, hm4⟩
   have z17 := s17
   refine sR <| rw_q rfl (ev_i64_lss s17 s16) ?_
   refine rN (cw_seq ?_)
   refine cw_cond rfl (fun hc5 => ?_) (fun hc5 => ?_)
   · -- true
     have hc5p := of_decide_eq_true hc5
     have hkb := blocksN_le (n := b.length) (k := k) oM
     have hpk := partB_len b k
     have hwl := writeK_len (ls := ls) (ps := ps) (pos := fr0 + pos) (g := ge) (r := BitVec.ofInt 64 num) (b := b) k
     refine cw_skip (kThen_normal (cw_seq (cw_block (sR ?_))))
     refine rM rfl s17 <| rw_q rfl (ev_assign (v := (i64 (k : Int))) rfl) ?_
     refine rN (sR ?_)
     refine rM rfl s3 <| rw_q rfl (ev_move (v := (i64 (k : Int))) rfl) <| rw_q rfl (ev_i64_mul (b := 42) rfl rfl oM oM) <| rM rfl s3 <| rw_q (v := (i64 (b.length : Int))) rfl (ev_len_rd (Rd.ofRest hb hm4) uT23 rfl) <| rw_q (v := (i64 (if (b.length : Int) < ((k : Int) * 42) then (b.length : Int) else (k : Int) * 42))) rfl (ev_min_i64 rfl rfl) ?_
     refine rw_q rfl (ev_move (v := (i64 (k : Int))) rfl) <| rw_q rfl (ev_i64_add (b := 1) rfl rfl oM oM) <| rw_q rfl (ev_i64_mul (b := 42) rfl rfl oM oM) <| rM rfl s3 <| rw_q (v := (i64 (b.length : Int))) rfl (ev_len_rd (Rd.ofRest hb hm4) uT23 rfl) <| rw_q (v := (i64 (if (b.length : Int) < (((k : Int) + 1) * 42) then (b.length : Int) else ((k : Int) + 1) * 42))) rfl (ev_min_i64 rfl rfl) ?_
     have hpt6 : (b.drop ((if (b.length : Int) < ((k : Int) * 42) then (b.length : Int) else (k : Int) * 42) : Int).toNat).take (((if (b.length : Int) < (((k : Int) + 1) * 42) then (b.length : Int) else ((k : Int) + 1) * 42) : Int).toNat - ((if (b.length : Int) < ((k : Int) * 42) then (b.length : Int) else (k : Int) * 42) : Int).toNat) = partB b k := part_eq' oM
     refine rw_q rfl (ev_slice_rd (i := (if (b.length : Int) < ((k : Int) * 42) then (b.length : Int) else (k : Int) * 42)) (j := (if (b.length : Int) < (((k : Int) + 1) * 42) then (b.length : Int) else ((k : Int) + 1) * 42)) (Rd.ofRest hb hm4) uT23 ti5 rfl (optI_some (k := .i64) (i := (if (b.length : Int) < ((k : Int) * 42) then (b.length : Int) else (k : Int) * 42)) rfl) (optI_some (k := .i64) (i := (if (b.length : Int) < (((k : Int) + 1) * 42) then (b.length : Int) else ((k : Int) + 1) * 42)) rfl) oM sL sL) <| rA rfl rfl <| rN ?_
     refine CW.abs (fun g => g 0 = (ptr bj 0) ∧ g 1 = (i64 num) ∧ g 2 = (i64 pos) ∧ g 3 = vb ∧ g 8 = (i64 (blocksN b.length : Int)) ∧ g 9 = (i64 (k : Int)) ∧ g 10 = (subv vb (if (b.length : Int) < ((k : Int) * 42) then (b.length : Int) else (k : Int) * 42) (if (b.length : Int) < (((k : Int) + 1) * 42) then (b.length : Int) else ((k : Int) + 1) * 42)) ∧ g 16 = (i64 (blocksN b.length : Int)) ∧ g 17 = (i64 (k : Int)) ∧ g 18 = (bl (decide ((k : Int) < (blocksN b.length : Int)))) ∧ True) ⟨s0, s1, s2, s3, s8, rfl, rfl, s16, s17, rfl, trivial⟩ ?_
     rintro fr7 ⟨s0, s1, s2, s3, s8, s9, s10, s16, s17, s18, _⟩
     refine sR <| rM rfl s0 <| rw_q rfl (ev_nilCheck rfl) <| rw_q rfl (ev_fa (r := 1) uT100 rfl (by first | rfl | omega) ti97 rfl rfl) <| rw_q rfl (ev_fa (r := 3) uT97 rfl (by first | rfl | omega) ti95 rfl rfl) <| rw_q (v := (u64 ge)) rfl (ev_load1 uT95 rfl rfl (hm4.rest _ _ hj) rfl) ?_
     refine rM rfl s1 <| rw_q rfl (ev_conv_i64_u64 ⟨_, uT3⟩ uT95 rfl) <| rM rfl s9 <| rw_q rfl (ev_conv_i64_u64 ⟨_, uT3⟩ uT95 rfl) <| rw_q rfl (ev_build_pt (c := #[(u64 ge), (u64 (BitVec.ofInt 64 num)), (u64 (BitVec.ofInt 64 (k : Int)))]) (pl := [(0, 1), (1, 1), (2, 1)]) ti145 uT145 (by kernel_rfl) (pm_cons (i := 0) (v := (u64 ge)) (cs := #[(u64 ge)]) rfl rfl (pm_cons (i := 1) (v := (u64 (BitVec.ofInt 64 num))) (cs := #[(u64 (BitVec.ofInt 64 num))]) rfl rfl (pm_cons (i := 2) (v := (u64 (BitVec.ofInt 64 (k : Int)))) (cs := #[(u64 (BitVec.ofInt 64 (k : Int)))]) rfl rfl pm_nil))) (by kernel_rfl)) <| rw_c rfl (or_allocX hm4 ti145) ?_
     rintro _ w8 ⟨b11, rfl, _ew8, hm8⟩
     refine rw_n (or_storeW (cs := #[(u64 ge), (u64 (BitVec.ofInt 64 num)), (u64 (BitVec.ofInt 64 (k : Int)))]) ti145 rfl rfl (by kernel_rfl) (one_arr (one_cons (u64_one _) (one_cons (u64_one _) (one_cons (u64_one _) one_nil)))) hm8.h0 (by kernel_rfl) rfl) ?_
     rintro _ w9 uq9
     have hm9 : Mem w9 R ([(b11, .cells #[(u64 ge), (u64 (BitVec.ofInt 64 num)), (u64 (BitVec.ofInt 64 (k : Int)))] 145 (0, 0)), (bd, .cells #[vl, vk] 94 (0, 0))] ++ (Hl ++ (Hk ++ ([])))) := hm8.upd0 uq9
     refine rN (cw_seq (sR ?_))
     refine rM rfl s9 <| rM rfl s8 <| rw_q rfl (ev_i64_sub (b := 1) rfl rfl oM oM) <| rw_q rfl (ev_i64_eql rfl rfl) <| rN ?_
     refine cw_meet (J := fun g wv => g 0 = (ptr bj 0) ∧ g 1 = (i64 num) ∧ g 2 = (i64 pos) ∧ g 3 = vb ∧ g 8 = (i64 (blocksN b.length : Int)) ∧ g 9 = (i64 (k : Int)) ∧ g 10 = (subv vb (if (b.length : Int) < ((k : Int) * 42) then (b.length : Int) else (k : Int) * 42) (if (b.length : Int) < (((k : Int) + 1) * 42) then (b.length : Int) else ((k : Int) + 1) * 42)) ∧ g 11 = (ptr b11 0) ∧ g 16 = (i64 (blocksN b.length : Int)) ∧ g 17 = (i64 (k : Int)) ∧ g 18 = (bl (decide ((k : Int) < (blocksN b.length : Int)))) ∧ g 46 = (bl ((k : Int) == ((blocksN b.length : Int) - 1))) ∧ Mem wv R ([(b11, .cells #[(u64 ge), (u64 (BitVec.ofInt 64 num)), (u64 (placeF (blocksN b.length) k))] 145 (0, 0)), (bd, .cells #[vl, vk] 94 (0, 0))] ++ (Hl ++ (Hk ++ ([]))))) ?_ ?_
     · skip
       refine cw_cond rfl (fun hc10 => ?_) (fun hc10 => ?_)
       · -- true
         have hc10p := eq_of_beq hc10
         refine cw_region <| rw_q rfl (ev_fa (r := 2) uT145 rfl (by first | rfl | omega) ti95 rfl rfl) <| rw_q (v := (u64 (BitVec.ofInt 64 (k : Int)))) rfl (ev_load1 uT95 rfl rfl hm9.h0 rfl) <| rw_q rfl (ev_u64_or (b := 32768#64) rfl rfl) <| rw_q rfl (ev_fa (r := 2) uT145 rfl (by first | rfl | omega) ti95 rfl rfl) <| rw_n (or_store1 ti95 rfl rfl (u64_one _) hm9.h0 (by simp) (.inl (Nat.zero_le _))) ?_
         rintro _ w11 uq11
         have hm11 : Mem w11 R ([(b11, .cells #[(u64 ge), (u64 (BitVec.ofInt 64 num)), (u64 ((BitVec.ofInt 64 (k : Int)) ||| 32768#64))] 145 (0, 0)), (bd, .cells #[vl, vk] 94 (0, 0))] ++ (Hl ++ (Hk ++ ([])))) := hm9.upd0 uq11
         refine rN ?_
         exact ⟨s0, s1, s2, s3, s8, s9, s10, rfl, s16, s17, s18, rfl, (by rw [← place_t hc10]; exact hm11)⟩
       · -- false
         have hc10p := ne_of_beq_false hc10
         refine cw_skip (kThen_normal ?_)
         exact ⟨s0, s1, s2, s3, s8, s9, s10, rfl, s16, s17, s18, rfl, (by rw [← place_f hc10]; exact hm9)⟩
     · rintro fr12 w13 ⟨s0, s1, s2, s3, s8, s9, s10, s11, s16, s17, s18, s46, hm13⟩
       refine sR <| rw_c rfl (or_alloc_agg hm13 ti83) ?_
       rintro _ w14 ⟨b12, rfl, _ew14, hm14⟩
       refine rN (cw_seq ?_)
       refine cw_drawE (by kernel_rfl) ?_
       have hFM15 : Mem w14 R ([] ++ ([(b12, .cells (cl u8 (List.replicate 64 0)) 83 (0, 0)), (b11, .cells #[(u64 ge), (u64 (BitVec.ofInt 64 num)), (u64 (placeF (blocksN b.length) k))] 145 (0, 0)), (bd, .cells #[vl, vk] 94 (0, 0))] ++ (Hl ++ (Hk ++ ([]))))) := hm14
       obtain ⟨RM15, hRM15⟩ : ∃ R2, R2 = Rest.add R ([(b12, .cells (cl u8 (List.replicate 64 0)) 83 (0, 0)), (b11, .cells #[(u64 ge), (u64 (BitVec.ofInt 64 num)), (u64 (placeF (blocksN b.length) k))] 145 (0, 0)), (bd, .cells #[vl, vk] 94 (0, 0))] ++ (Hl ++ (Hk ++ ([])))) := ⟨_, rfl⟩
       have M150 : Mem w14 RM15 [] := by rw [hRM15]; exact Mem.give hFM15
       have hr16 : Rd RM15.blk u8 vb b := by rw [hRM15]; exact Rd.mono hb fun b o e => Mem.addRest hFM15 e
       have ho17 : RM15.blk b12 = some (.cells (cl u8 (List.replicate 64 0)) 83 (0, 0)) := by rw [hRM15]; exact Mem.addOwn hFM15 (List.mem_append_left _ (List.Mem.head _))
       have ho18 : RM15.blk b11 = some (.cells #[(u64 ge), (u64 (BitVec.ofInt 64 num)), (u64 (placeF (blocksN b.length) k))] 145 (0, 0)) := by rw [hRM15]; exact Mem.addOwn hFM15 (List.mem_append_left _ (List.Mem.tail _ (List.Mem.head _)))
       have ho19 : RM15.blk bd = some (.cells #[vl, vk] 94 (0, 0)) := by rw [hRM15]; exact Mem.addOwn hFM15 (List.mem_append_left _ (List.Mem.tail _ (List.Mem.tail _ (List.Mem.head _))))
       have hg20 : RdK RM15.blk (encA u8) 64 vl ls := gl.rdIn (fun p hp => by rw [hRM15]; exact Mem.addOwn hFM15 (List.mem_append_right _ (List.mem_append_left _ hp)))
       have hg21 : RdK RM15.blk encW 65 vk (writeK ls ps (fr0 + pos) ge (BitVec.ofInt 64 num) b k) := gk.rdIn (fun p hp => by rw [hRM15]; exact Mem.addOwn hFM15 (List.mem_append_right _ (List.mem_append_right _ (List.mem_append_left _ hp))))
       have ho22 : RM15.blk bj = some (.cells #[(ptr bd 0), (i64 fr0), (i64 sz), (u64 ge), vr, (i64 ja)] 100 (0, 0)) := by rw [hRM15]; exact Mem.addRest hFM15 hj
       refine re_planM M150 [(0, false), (1, false), (3, false), (4, false), (5, false), (2, true), (6, true)] 7 rfl (by kernel_rfl) <| dk_q rfl rfl (fun w _H _hx => ev_slice_sla (i := 0) (j := 64) uT83 ti5 rfl (optI_none _ _) (optI_none _ _) oM sL sL) <| dk_q (v := (Value.agg #[(u64 ge), (u64 (BitVec.ofInt 64 num)), (u64 (placeF (blocksN b.length) k))])) rfl rfl (fun w _H _hx => ev_loadW uT145 rfl ti145 s11 (_hx.rest _ _ ho18) (by kernel_rfl)) <| dk_q rfl rfl (fun w _H _hx => ev_move s10) <| dk_q (v := (i64 ((partB b k).length : Int))) rfl rfl (fun w _H _hx => ev_len_rd (Rd.cast (l' := partB b k) (Rd.cast (l' := (b.drop ((if (b.length : Int) < ((k : Int) * 42) then (b.length : Int) else (k : Int) * 42) : Int).toNat).take (((if (b.length : Int) < (((k : Int) + 1) * 42) then (b.length : Int) else ((k : Int) + 1) * 42) : Int).toNat - ((if (b.length : Int) < ((k : Int) * 42) then (b.length : Int) else (k : Int) * 42) : Int).toNat)) (Rd.sub (Rd.ofRest hr16 _hx) oM sL sL) rfl) hpt6) uT23 rfl) <| dk_q rfl rfl (fun w _H _hx => ev_conv_i64_u64 ⟨_, uT3⟩ uT95 rfl) ?_
       refine dk_c rfl rfl (fun w23 _ew23 => ?_)
       have hm23 := M150.ext _ew23
       refine OpR.mono (opR_call Try.func87 bd87 nm87 (args1 rfl) (c_jbytes ge (BitVec.ofInt 64 num) (placeF (blocksN b.length) k) _)) ?_
       rintro r1q25 w24 ⟨Hsq25, grq25, k_w24⟩
       have hm24 : Mem w24 RM15 (Hsq25 ++ ([])) := Mem.new (H := []) (H' := Hsq25) hm23 k_w24
       refine ⟨⟨_, hm24⟩, ?_⟩
       refine dk_c rfl rfl (fun w26 _ew26 => ?_)
       have hm26 := hm24.ext _ew26
       have hF28 : Mem w26 RM15 ((Hsq25 ++ ([])) ++ ([])) := by
         have hT := hm26
         try simp only [List.append_assoc, List.cons_append, List.nil_append, List.append_nil] at hT ⊢
         exact hT
       refine OpR.mono (opR_call Try.func86 bd86 nm86 (args3 rfl rfl rfl) (c_jput r1q25 (markB ge (BitVec.ofInt 64 num) (placeF (blocksN b.length) k)) Hsq25 (BitVec.ofInt 64 ((partB b k).length : Int)) 2 _ _ (Mem.give hF28) grq25 sL sL)) ?_
       rintro rq29 w27 ⟨Hsq29, grq29, k_w27⟩
       have hm27 : Mem w27 RM15 (Hsq29 ++ ([])) := (by
         have hT := Mem.back hF28 k_w27
         try simp only [List.append_assoc, List.cons_append, List.nil_append, List.append_nil] at hT ⊢
         exact hT)
       refine ⟨⟨_, hm27⟩, ?_⟩
       refine dw_nil (fun w30 _ew30 => ?_)
       have hm30 := hm27.ext _ew30
       have hX31 := hm30
       rw [hRM15] at hX31
       have hm32 : Mem w30 R (Hsq29 ++ ([(b12, .cells (cl u8 (List.replicate 64 0)) 83 (0, 0)), (b11, .cells #[(u64 ge), (u64 (BitVec.ofInt 64 num)), (u64 (placeF (blocksN b.length) k))] 145 (0, 0)), (bd, .cells #[vl, vk] 94 (0, 0))] ++ (Hl ++ (Hk ++ ([]))))) := (by
         have hT := Mem.back hFM15 hX31
         try simp only [List.append_assoc, List.cons_append, List.nil_append, List.append_nil] at hT ⊢
         exact hT)
       refine rw_c rfl (or_copy_cl (f := u8) (Eq.trans rfl (sla_full (by decide))) rfl (grq29.rd hm32) uT23 ti5 u8_one ((Mem.pick Hsq29 [_] _ hm32)).h0 sL sL (Nat.le_refl _)) ?_
       rintro _ w33 ⟨rfl, uq33⟩
       have hm33 : Mem w33 R ([(b12, .cells (cl u8 (((markB ge (BitVec.ofInt 64 num) (placeF (blocksN b.length) k)) ++ putB (BitVec.ofInt 64 ((partB b k).length : Int)) 2) ++ (List.replicate 64 0).drop ((markB ge (BitVec.ofInt 64 num) (placeF (blocksN b.length) k)) ++ putB (BitVec.ofInt 64 ((partB b k).length : Int)) 2).length)) 83 (0, 0))] ++ (Hsq29 ++ ([(b11, .cells #[(u64 ge), (u64 (BitVec.ofInt 64 num)), (u64 (placeF (blocksN b.length) k))] 145 (0, 0)), (bd, .cells #[vl, vk] 94 (0, 0))] ++ (Hl ++ (Hk ++ ([])))))) := Mem.upd0 (Mem.pick Hsq29 [_] _ hm32) uq33
       obtain ⟨xa34, hxa34⟩ : ∃ q, q = ((markB ge (BitVec.ofInt 64 num) (placeF (blocksN b.length) k)) ++ putB (BitVec.ofInt 64 ((partB b k).length : Int)) 2) ++ (List.replicate 64 0).drop ((markB ge (BitVec.ofInt 64 num) (placeF (blocksN b.length) k)) ++ putB (BitVec.ofInt 64 ((partB b k).length : Int)) 2).length := ⟨_, rfl⟩
       have hxa34l : xa34.length = 64 := by rw [hxa34]; simp
       have hm35 : Mem w33 R ([(b12, .cells (cl u8 xa34) 83 (0, 0))] ++ (Hsq29 ++ ([(b11, .cells #[(u64 ge), (u64 (BitVec.ofInt 64 num)), (u64 (placeF (blocksN b.length) k))] 145 (0, 0)), (bd, .cells #[vl, vk] 94 (0, 0))] ++ (Hl ++ (Hk ++ ([])))))) := by rw [hxa34]; exact hm33
       refine rN (sR ?_)
       refine rw_q rfl (ev_slice_sla (i := 12) (j := 64) uT83 ti5 rfl (optI_some (k := .i64) (i := 12) rfl) (optI_none _ _) oM sL sL) <| rM rfl s10 <| rw_c rfl (or_copy_mid (f := u8) (l := xa34) (i := 12) rfl oM oM rfl (Rd.cast (l' := partB b k) (Rd.cast (l' := (b.drop ((if (b.length : Int) < ((k : Int) * 42) then (b.length : Int) else (k : Int) * 42) : Int).toNat).take (((if (b.length : Int) < (((k : Int) + 1) * 42) then (b.length : Int) else ((k : Int) + 1) * 42) : Int).toNat - ((if (b.length : Int) < ((k : Int) * 42) then (b.length : Int) else (k : Int) * 42) : Int).toNat)) (Rd.sub (Rd.ofRest hb hm35) oM sL sL) rfl) hpt6) uT23 ti5 u8_one hm35.h0 sL sL rfl) ?_
       rintro _ w36 ⟨rfl, uq36⟩
       have hm36 : Mem w36 R ([(b12, .cells (cl u8 (xa34.take 12 ++ ((partB b k) ++ xa34.drop (12 + (partB b k).length)))) 83 (0, 0))] ++ (Hsq29 ++ ([(b11, .cells #[(u64 ge), (u64 (BitVec.ofInt 64 num)), (u64 (placeF (blocksN b.length) k))] 145 (0, 0)), (bd, .cells #[vl, vk] 94 (0, 0))] ++ (Hl ++ (Hk ++ ([])))))) := Mem.upd0 hm35 uq36
       obtain ⟨xb37, hxb37⟩ : ∃ q, q = xa34.take 12 ++ ((partB b k) ++ xa34.drop (12 + (partB b k).length)) := ⟨_, rfl⟩
       have hxb37l : xb37.length = 64 := by rw [hxb37]; simp; omega
       have hm38 : Mem w36 R ([(b12, .cells (cl u8 xb37) 83 (0, 0))] ++ (Hsq29 ++ ([(b11, .cells #[(u64 ge), (u64 (BitVec.ofInt 64 num)), (u64 (placeF (blocksN b.length) k))] 145 (0, 0)), (bd, .cells #[vl, vk] 94 (0, 0))] ++ (Hl ++ (Hk ++ ([])))))) := by rw [hxb37]; exact hm36
       refine rN (cw_seq ?_)
       refine cw_draw [(0, false), (1, false), (2, true)] 3 (by kernel_rfl) <| dw_q rfl rfl (fun _ _hx => ev_slice_sla (i := 54) (j := 64) uT83 ti5 rfl (optI_some (k := .i64) (i := 54) rfl) (optI_none _ _) oM sL sL) <| dw_q (v := (Value.agg #[(u64 ge), (u64 (BitVec.ofInt 64 num)), (u64 (placeF (blocksN b.length) k))])) rfl rfl (fun _ _hx => ev_loadW uT145 rfl ti145 s11 ((Mem.pick2 [_] Hsq29 [_] _ (hm38.ext _hx))).h0 (by kernel_rfl)) ?_
       refine dw_c rfl rfl (fun w39 _ew39 => ?_)
       have hm39 := hm38.ext _ew39
       refine OpR.mono (opR_call Try.func87 bd87 nm87 (args1 rfl) (c_jbytes ge (BitVec.ofInt 64 num) (placeF (blocksN b.length) k) _)) ?_
       rintro r1q41 w40 ⟨Hsq41, grq41, k_w40⟩
       refine ⟨k_w40.toExt, ?_⟩
       have hm40 : Mem w40 R (Hsq41 ++ ([(b12, .cells (cl u8 xb37) 83 (0, 0))] ++ (Hsq29 ++ ([(b11, .cells #[(u64 ge), (u64 (BitVec.ofInt 64 num)), (u64 (placeF (blocksN b.length) k))] 145 (0, 0)), (bd, .cells #[vl, vk] 94 (0, 0))] ++ (Hl ++ (Hk ++ ([]))))))) := Mem.new (H := [(b12, .cells (cl u8 xb37) 83 (0, 0))] ++ (Hsq29 ++ ([(b11, .cells #[(u64 ge), (u64 (BitVec.ofInt 64 num)), (u64 (placeF (blocksN b.length) k))] 145 (0, 0)), (bd, .cells #[vl, vk] 94 (0, 0))] ++ (Hl ++ (Hk ++ ([])))))) (H' := Hsq41) hm39 k_w40
       refine dw_nil (fun w42 _ew42 => ?_)
       have hm42 := hm40.ext _ew42
       refine rw_c rfl (or_copy_mid (f := u8) (l := xb37) (i := 54) rfl oM oM rfl (grq41.rd hm42) uT23 ti5 u8_one ((Mem.pick Hsq41 [_] _ hm42)).h0 sL sL rfl) ?_
       rintro _ w43 ⟨rfl, uq43⟩
       have hm43 : Mem w43 R ([(b12, .cells (cl u8 (xb37.take 54 ++ ((markB ge (BitVec.ofInt 64 num) (placeF (blocksN b.length) k)) ++ xb37.drop (54 + (markB ge (BitVec.ofInt 64 num) (placeF (blocksN b.length) k)).length)))) 83 (0, 0))] ++ (Hsq41 ++ (Hsq29 ++ ([(b11, .cells #[(u64 ge), (u64 (BitVec.ofInt 64 num)), (u64 (placeF (blocksN b.length) k))] 145 (0, 0)), (bd, .cells #[vl, vk] 94 (0, 0))] ++ (Hl ++ (Hk ++ ([]))))))) := Mem.upd0 (Mem.pick Hsq41 [_] _ hm42) uq43
       obtain ⟨xc44, hxc44⟩ : ∃ q, q = xb37.take 54 ++ ((markB ge (BitVec.ofInt 64 num) (placeF (blocksN b.length) k)) ++ xb37.drop (54 + (markB ge (BitVec.ofInt 64 num) (placeF (blocksN b.length) k)).length)) := ⟨_, rfl⟩
       have hm45 : Mem w43 R ([(b12, .cells (cl u8 xc44) 83 (0, 0))] ++ (Hsq41 ++ (Hsq29 ++ ([(b11, .cells #[(u64 ge), (u64 (BitVec.ofInt 64 num)), (u64 (placeF (blocksN b.length) k))] 145 (0, 0)), (bd, .cells #[vl, vk] 94 (0, 0))] ++ (Hl ++ (Hk ++ ([]))))))) := by rw [hxc44]; exact hm43
       have hx46 : xc44 = blkOf ge (BitVec.ofInt 64 num) (blocksN b.length) b k := (raw_eq (markB_len _ _ _) hpk hxa34 hxb37 hxc44).trans blk_fold
       have hm47 : Mem w43 R ([(b12, .cells (cl u8 (blkOf ge (BitVec.ofInt 64 num) (blocksN b.length) b k)) 83 (0, 0))] ++ (Hsq41 ++ (Hsq29 ++ ([(b11, .cells #[(u64 ge), (u64 (BitVec.ofInt 64 num)), (u64 (placeF (blocksN b.length) k))] 145 (0, 0)), (bd, .cells #[vl, vk] 94 (0, 0))] ++ (Hl ++ (Hk ++ ([]))))))) := by rw [← hx46]; exact hm45
       refine rN <| cw_draw [(0, false), (1, false), (2, false), (3, false), (4, false), (5, false), (6, false), (7, false), (8, false), (9, false), (10, false), (11, false), (12, false), (13, false)] 14 (by kernel_rfl) <| dM rfl rfl s0 <| dw_q rfl rfl (fun _ _hx => ev_nilCheck rfl) <| dw_q rfl rfl (fun _ _hx => ev_fa (r := 0) uT100 rfl (by first | rfl | omega) ti25 rfl rfl) <| dw_q (v := (ptr bd 0)) rfl rfl (fun _ _hx => ev_load1 uT25 rfl rfl ((hm47.ext _hx).rest _ _ hj) rfl) ?_
       refine dM rfl rfl s0 <| dw_q rfl rfl (fun _ _hx => ev_nilCheck rfl) <| dw_q rfl rfl (fun _ _hx => ev_fa (r := 1) uT100 rfl (by first | rfl | omega) ti97 rfl rfl) <| dw_q rfl rfl (fun _ _hx => ev_fa (r := 1) uT97 rfl (by first | rfl | omega) ti3 rfl rfl) <| dw_q (v := (i64 fr0)) rfl rfl (fun _ _hx => ev_load1 uT3 rfl rfl ((hm47.ext _hx).rest _ _ hj) rfl) <| dM rfl rfl s2 ?_
       refine dw_q rfl rfl (fun _ _hx => ev_i64_add rfl rfl oM oM) <| dM rfl rfl s9 <| dw_q rfl rfl (fun _ _hx => ev_i64_add rfl rfl oM oM) <| dw_q (v := (agg u8 (blkOf ge (BitVec.ofInt 64 num) (blocksN b.length) b k))) rfl rfl (fun _ _hx => ev_loadA uT83 rfl ti83 rfl (hm47.ext _hx).h0 (by rw [size_cl]; first | omega | (simp only [List.length_set, List.length_append, List.length_replicate, List.length_map, List.length_cons, List.length_nil]; omega) | (simp; done) | (simp; omega) | decide)) ?_
       refine dw_nil (fun w48 _ew48 => ?_)
       have hm48 := hm47.ext _ew48
       have hF50 : Mem w48 R (([(bd, .cells #[vl, vk] 94 (0, 0))] ++ (Hl ++ (Hk ++ ([])))) ++ ([(b12, .cells (cl u8 (blkOf ge (BitVec.ofInt 64 num) (blocksN b.length) b k)) 83 (0, 0))] ++ (Hsq41 ++ (Hsq29 ++ ([(b11, .cells #[(u64 ge), (u64 (BitVec.ofInt 64 num)), (u64 (placeF (blocksN b.length) k))] 145 (0, 0))]))))) := by
         have hT := (Mem.pick6 Hl Hk [_] Hsq41 Hsq29 [_] [_] _ (Mem.pick5 Hk [_] Hsq41 Hsq29 [_, _] Hl _ (Mem.pick5 [_] Hsq41 Hsq29 [_, _] Hl Hk _ hm48)))
         try simp only [List.append_assoc, List.cons_append, List.nil_append, List.append_nil] at hT ⊢
         exact hT
       refine rw_c rfl (opR_call Try.func45 bd45 nm45 (args3 rfl rfl rfl) (c_dwrite bd vl ls Hl vk (writeK ls ps (fr0 + pos) ge (BitVec.ofInt 64 num) b k) Hk ((fr0 + pos) + (k : Int)) (blkOf ge (BitVec.ofInt 64 num) (blocksN b.length) b k) _ _ (Mem.give hF50) gl gk sL sL sL)) ?_
       rintro _ w49 ⟨vp2q51, Hp2q51, rfl, gp2q51, k_w49⟩
       have hm49 : Mem w49 R ([(bd, .cells #[vl, vp2q51] 94 (0, 0))] ++ (Hl ++ (Hp2q51 ++ ([(b12, .cells (cl u8 (blkOf ge (BitVec.ofInt 64 num) (blocksN b.length) b k)) 83 (0, 0))] ++ (Hsq41 ++ (Hsq29 ++ ([(b11, .cells #[(u64 ge), (u64 (BitVec.ofInt 64 num)), (u64 (placeF (blocksN b.length) k))] 145 (0, 0))]))))))) := (by
         have hT := Mem.back hF50 k_w49
         try simp only [List.append_assoc, List.cons_append, List.nil_append, List.append_nil] at hT ⊢
         exact hT)
       refine rw_nil (kBlk_normal ?_)
       have hm52 := Mem.drop Hsq41 _ (Mem.pick4 [_] Hl Hp2q51 [_] Hsq41 _ hm49)
       have hm53 := Mem.drop Hsq29 _ (Mem.pick4 [_] Hl Hp2q51 [_] Hsq29 _ hm52)
       refine CW.abs (fun g => g 0 = (ptr bj 0) ∧ g 1 = (i64 num) ∧ g 2 = (i64 pos) ∧ g 3 = vb ∧ g 8 = (i64 (blocksN b.length : Int)) ∧ g 9 = (i64 (k : Int)) ∧ g 10 = (subv vb (if (b.length : Int) < ((k : Int) * 42) then (b.length : Int) else (k : Int) * 42) (if (b.length : Int) < (((k : Int) + 1) * 42) then (b.length : Int) else ((k : Int) + 1) * 42)) ∧ g 11 = (ptr b11 0) ∧ g 12 = (ptr b12 0) ∧ g 16 = (i64 (blocksN b.length : Int)) ∧ g 17 = (i64 (k : Int)) ∧ g 18 = (bl (decide ((k : Int) < (blocksN b.length : Int)))) ∧ g 46 = (bl ((k : Int) == ((blocksN b.length : Int) - 1))) ∧ True) ⟨s0, s1, s2, s3, s8, s9, s10, s11, rfl, s16, s17, s18, s46, trivial⟩ ?_
       rintro fr54 ⟨s0, s1, s2, s3, s8, s9, s10, s11, s12, s16, s17, s18, s46, _⟩
       refine cw_region <| rw_q rfl (ev_i64_add (b := 1) s17 rfl oM oM) <| rw_q rfl (ev_move (v := (i64 ((k : Int) + 1))) rfl) <| rN ?_
       have hm55 := Mem.drop ([(b12, .cells (cl u8 (blkOf ge (BitVec.ofInt 64 num) (blocksN b.length) b k)) 83 (0, 0))]) _ (Mem.pick3 [_] Hl Hp2q51 [_] _ hm53)
       have hm56 := Mem.drop ([(b11, .cells #[(u64 ge), (u64 (BitVec.ofInt 64 num)), (u64 (placeF (blocksN b.length) k))] 145 (0, 0))]) _ (Mem.pick3 [_] Hl Hp2q51 [_] _ hm55)
       exact ⟨⟨(k + 1), vp2q51, Hp2q51, oM, (GrowK.cast gp2q51 writeK_S), s0, s1, s2, s3, s8, s16, rfl, hm56⟩, meas rfl z17 oM oM⟩
   · -- false
     have hc5p := of_decide_eq_false hc5
     refine cw_exit ?_
     refine kThen_exit (kThen_exit (kBlk_hit ?_))
     refine fnPost_normal [] trivial ?_
     exact ⟨vk, Hk, rfl, GrowK.cast gk (by rw [show k = blocksN b.length by omega]), (by
       have hT := hm4
       try simp only [List.append_assoc, List.cons_append, List.nil_append, List.append_nil] at hT ⊢
       exact hT)⟩


end Go.Proofs.Ytfbnhoolkajebaa
