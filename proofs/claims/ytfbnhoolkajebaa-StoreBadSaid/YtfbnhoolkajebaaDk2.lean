/- Contracts of the disk: new, there, write. Conditions: none beyond those that each theorem states. -/
import Derived.Test.YtfbnhoolkajebaaTab
import Derived.Test.YtfbnhoolkajebaaFwL
import Derived.Test.YtfbnhoolkajebaaFwd
import Derived.Test.YtfbnhoolkajebaaFwM
namespace Go.Proofs.Ytfbnhoolkajebaa
section
set_option linter.unusedVariables false
set_option linter.unusedSimpArgs false
/-! ### Writes, plainly -/
structure WriteT where
  at_ : Int
  b : List (BitVec 8)
def encW (w : WriteT) : List Value := ([[i64 w.at_], w.b.map u8] : List (List Value)).flatten
def write0 : WriteT := ⟨0, []⟩
theorem encW_len {w : WriteT} (h : w.b.length = 64) : (encW w).length = 65 := by simp [encW, h]
theorem encW_one (w : WriteT) : (encW w).all (·.oneCell') = true := by
  simp only [encW, List.flatten_cons, List.flatten_nil, List.append_nil, List.all_append, List.all_cons, List.all_nil, Bool.and_true]
  rw [Bool.and_eq_true]
  refine ⟨rfl, ?_⟩
  rw [List.all_eq_true]; intro v hv; obtain ⟨a, _, rfl⟩ := List.mem_map.1 hv; rfl
theorem encW_b {m : Nat → Option Obj} {v : Value} {ps : List WriteT} (h : RdK m encW 65 v ps) {i : Nat} (hi : i < ps.length) : (ps.getD i write0).b.length = 64 := by
  have e : ps.getD i write0 = ps[i] := by simp [List.getD_eq_getElem?_getD, hi]
  rw [e]
  have := h.len ps[i] (by simp)
  simpa [encW] using this
theorem encA_b {m : Nat → Option Obj} {v : Value} {ls : List (List (BitVec 8))} (h : RdK m (encA u8) 64 v ls) {i : Nat} (hi : i < ls.length) : (ls.getD i []).length = 64 := by
  have e : ls.getD i [] = ls[i] := by simp [List.getD_eq_getElem?_getD, hi]
  rw [e]
  have := h.len ls[i] (by simp)
  simpa [encA] using this
def inB (ls : List (List (BitVec 8))) (n : Int) : Bool := decide (0 ≤ n) && decide (n < (ls.length : Int))
def errB (ls : List (List (BitVec 8))) (n : Int) : Int := if inB ls n then 0 else 2
def pushB (ls : List (List (BitVec 8))) (ps : List WriteT) (n : Int) (b : List (BitVec 8)) : List WriteT := if inB ls n then ps ++ [⟨n, b⟩] else ps
/-- How many of a block's first bytes are new. -/
def cutN (p : BitVec 8) : Nat := if p.toNat % 3 = 1 then 64 else if p.toNat % 3 = 2 then p.toNat / 3 % 64 else 0
def putW (ls : List (List (BitVec 8))) (w : WriteT) (c : Nat) : List (List (BitVec 8)) := ls.set w.at_.toNat (w.b.take c ++ (ls.getD w.at_.toNat []).drop c)
def picksB (q : List (BitVec 8)) : List (BitVec 8) := if q.length = 0 then [0] else q
def crashK (ls : List (List (BitVec 8))) (ps : List WriteT) (q : List (BitVec 8)) : Nat → List (List (BitVec 8))
  | 0 => ls
  | k + 1 => putW (crashK ls ps q k) (ps.getD k write0) (cutN (q.getD (k % q.length) 0))
theorem crashK_len {ls : List (List (BitVec 8))} {ps : List WriteT} {q : List (BitVec 8)} : ∀ k, (crashK ls ps q k).length = ls.length
  | 0 => rfl
  | k + 1 => by show (putW _ _ _).length = _; unfold putW; rw [List.length_set, crashK_len k]
def crashB (ls : List (List (BitVec 8))) (ps : List WriteT) (q : List (BitVec 8)) : List (List (BitVec 8)) := crashK ls ps (picksB q) ps.length
/-- The block that is seen. -/
def seenW (ps : List WriteT) (n : Int) (d : List (BitVec 8)) : List (BitVec 8) := match ps.reverse.find? (fun w => w.at_ == n) with | some w => w.b | none => d
def readB (ls : List (List (BitVec 8))) (ps : List WriteT) (n : Int) : List (BitVec 8) := if inB ls n then seenW ps n (ls.getD n.toNat []) else List.replicate 64 0
theorem seen_none {ps : List WriteT} {n : Int} {d : List (BitVec 8)} (h : ∀ i, i < ps.length → (ps.getD i write0).at_ ≠ n) : seenW ps n d = d := by
  have : ps.reverse.find? (fun w => w.at_ == n) = none := by
    rw [List.find?_eq_none]
    intro x hx
    obtain ⟨i, hi, rfl⟩ := List.mem_iff_getElem.1 (List.mem_reverse.1 hx)
    have := h i hi
    simpa [List.getD_eq_getElem?_getD, hi] using this
  unfold seenW; rw [this]
theorem seen_hit {ps : List WriteT} {n : Int} {d : List (BitVec 8)} {i : Nat} (hi : i < ps.length) (h : (ps.getD i write0).at_ = n) (h2 : ∀ j, i < j → j < ps.length → (ps.getD j write0).at_ ≠ n) : seenW ps n d = (ps.getD i write0).b := by
  have e : ps.getD i write0 = ps[i] := by simp [List.getD_eq_getElem?_getD, hi]
  have hs : ps = ps.take i ++ (ps[i] :: ps.drop (i + 1)) := by rw [← List.drop_eq_getElem_cons hi, List.take_append_drop]
  have hn : (ps.drop (i + 1)).reverse.find? (fun w => w.at_ == n) = none := by
    rw [List.find?_eq_none]
    intro x hx
    obtain ⟨j, hj, rfl⟩ := List.mem_iff_getElem.1 (List.mem_reverse.1 hx)
    rw [List.length_drop] at hj
    have := h2 (i + 1 + j) oM oM
    rw [List.getElem_drop]
    simpa [List.getD_eq_getElem?_getD, show i + 1 + j < ps.length by omega] using this
  have : ps.reverse.find? (fun w => w.at_ == n) = some ps[i] := by
    conv => lhs; rw [hs]
    rw [List.reverse_append, List.reverse_cons, List.find?_append, List.find?_append, hn, List.find?_cons_of_pos (by simpa using e ▸ h)]; rfl
  unfold seenW; rw [this, e]
theorem encW_b2 {ps : List WriteT} (h : ∀ a ∈ ps, (encW a).length = 65) {i : Nat} (hi : i < ps.length) : (ps.getD i write0).b.length = 64 := by
  have e : ps.getD i write0 = ps[i] := by simp [List.getD_eq_getElem?_getD, hi]
  rw [e]
  have := h ps[i] (by simp)
  simpa [encW] using this
theorem picks_0 {q : List (BitVec 8)} (h : q.length = 0) : [0#8] = picksB q := by unfold picksB; rw [if_pos h]; rfl
theorem picks_n {q : List (BitVec 8)} (h : q.length ≠ 0) : q = picksB q := by unfold picksB; rw [if_neg h]
theorem picks_pos (q : List (BitVec 8)) : 0 < (picksB q).length ∧ (picksB q).length ≤ q.length + 1 := by
  unfold picksB
  by_cases h : q.length = 0
  · rw [if_pos h]; simp
  · rw [if_neg h]; omega
theorem rem3 (p : BitVec 8) : (p % 3#8).toNat = p.toNat % 3 := by rw [BitVec.toNat_umod]; rfl
theorem quo3 (p : BitVec 8) : (p / 3#8).toNat = p.toNat / 3 := by rw [BitVec.toNat_udiv]; rfl
theorem rem_t {p : BitVec 8} {c : BitVec 8} (h : (p % 3#8 == c) = true) : p.toNat % 3 = c.toNat := by
  rw [← rem3]; exact congrArg BitVec.toNat (by simpa using h)
theorem rem_f {p : BitVec 8} {c : BitVec 8} (h : (p % 3#8 == c) = false) : p.toNat % 3 ≠ c.toNat := by
  rw [← rem3]; intro e; exact absurd (BitVec.eq_of_toNat_eq e) (by simpa using h)
theorem cut_1 {p : BitVec 8} (h : (p % 3#8 == 1#8) = true) : (64 : Int).toNat = cutN p := by
  have := rem_t h; unfold cutN; rw [if_pos (by simpa using this)]; rfl
theorem cut_2 {p : BitVec 8} (h1 : (p % 3#8 == 1#8) = false) (h : (p % 3#8 == 2#8) = true) : ((((p / 3#8).toNat : Int) % 64 : Int)).toNat = cutN p := by
  have e := rem_t h; have e1 := rem_f h1
  unfold cutN
  rw [if_neg (by simpa using e1), if_pos (by simpa using e), quo3]; omega
theorem cut_0 {p : BitVec 8} (h1 : (p % 3#8 == 1#8) = false) (h : (p % 3#8 == 2#8) = false) : (0 : Int).toNat = cutN p := by
  have e := rem_f h; have e1 := rem_f h1
  unfold cutN
  rw [if_neg (by simpa using e1), if_neg (by simpa using e)]; rfl
theorem crash_step {ls : List (List (BitVec 8))} {ps : List WriteT} {qs : List (BitVec 8)} {k n : Nat} {c : Int} (hn : (k : Int) % (qs.length : Int) = (n : Int)) (hc : c.toNat = cutN (qs.getD n 0)) :
    (crashK ls ps qs k).set ((ps.getD k write0).at_).toNat (((ps.getD k write0).b).take c.toNat ++ ((crashK ls ps qs k).getD ((ps.getD k write0).at_).toNat []).drop c.toNat) = crashK ls ps qs (k + 1) := by
  have e : k % qs.length = n := by
    have : ((k % qs.length : Nat) : Int) = (n : Int) := by rw [← hn]; rfl
    exact Int.ofNat.inj this
  show _ = putW (crashK ls ps qs k) (ps.getD k write0) (cutN (qs.getD (k % qs.length) 0))
  unfold putW
  rw [e, hc]
theorem inB_t {ls : List (List (BitVec 8))} {n : Int} (h : inB ls n = true) : 0 ≤ n ∧ n < (ls.length : Int) := by
  unfold inB at h
  rw [Bool.and_eq_true] at h
  exact ⟨of_decide_eq_true h.1, of_decide_eq_true h.2⟩
theorem ok_step {ok : Nat → Prop} {k k1 n : Nat} (hok : ∀ j, k ≤ j → j < n → ok j) (hk1 : (k : Int) - 1 = (k1 : Int)) (h : ok k1) : ∀ j, k1 ≤ j → j < n → ok j := fun j h1 h2 => by
  rcases Nat.lt_or_ge k1 j with h3 | h3
  · exact hok j oM h2
  · have : j = k1 := by omega
    rw [this]; exact h
theorem inB_of {ls : List (List (BitVec 8))} {n : Int} (h0 : 0 ≤ n) (h1 : n < (ls.length : Int)) : inB ls n = true := by unfold inB; rw [decide_eq_true h0, decide_eq_true h1]; rfl
theorem told_true {α : Type} [BEq α] [LawfulBEq α] {a b : α} (h : a = b) : (a == b) = true := by rw [h]; exact beq_self_eq_true b
theorem told_ne {α : Type} [BEq α] [LawfulBEq α] {a b : α} (h : a = b) : (a != b) = false := by rw [h]; simp
theorem crashB_len {ls : List (List (BitVec 8))} {ps : List WriteT} {q : List (BitVec 8)} : (crashB ls ps q).length = ls.length := crashK_len _


end --m
section
set_option linter.unusedVariables false
set_option linter.unusedSimpArgs false

set_option maxHeartbeats 1000000 in
theorem c_dnew (n : Int) (w0 : World)  (hn : 1 ≤ n ∧ n ≤ 65536) : CallsR Try.prog 13 #[(i64 n)] w0 (fun r w1 => ∃ bd vl Hl, r = .tuple #[ptr bd 0, i64 0] ∧ GrowK (encA u8) 64 83 vl (List.replicate n.toNat (List.replicate 64 0)) Hl ∧ Mem w1 (restOf w0) ([(bd, .cells #[vl, .slice none 0 0] 94 (0, 0))] ++ Hl)) := by
 refine callsR_of_cw (args := [(i64 n)]) Try.func13 rfl Try.ntmps13 Try.results13 rfl ?_
 have hm0 : Mem w0 (restOf w0) [] := Mem.of_world w0
 refine sR <| rw_q rfl (ev_assign (v := (Value.pointer none)) rfl) <| rw_q rfl (ev_assign (v := (i64 0)) rfl) ?_
 refine rN (cw_seq (sR ?_))
 refine rw_q rfl (ev_move (v := (i64 n)) rfl) <| rw_q rfl (ev_i64_lss (b := 1) rfl rfl) <| rw_q rfl (ev_move (v := (bl (decide (n < 1)))) rfl) ?_
 have hd1 : (decide (n < 1)) = false := decide_eq_false oM
 refine rw_gyq (s := 6) rfl rfl hd1 rfl (ev_move (v := (i64 n)) rfl) <| rw_gyq (s := 6) rfl rfl hd1 rfl (ev_i64_gtr (b := 65536) rfl rfl) <| rw_q rfl (ev_pick_fk rfl hd1 rfl) <| rN ?_
 have hd2 : (decide (65536 < n)) = false := decide_eq_false oM
 refine cw_cond_f rfl hd2 ?_
 refine cw_skip (kThen_normal (sR ?_))
 refine rw_q rfl (ev_move (v := (i64 n)) rfl) <| rw_c rfl (or_makeSlice hm0 uT40 ti83 rfl rfl oM oM oM oM) ?_
 rintro _ w3 ⟨b11, rfl, _ew3, hm3⟩
 rw [rep_cellsK (f := u8) (a := 0) (k := 64) rfl (by decide)] at hm3
 obtain ⟨Hs3, hm3, g3⟩ : ∃ Hs, Mem w3 (restOf w0) (Hs ++ []) ∧ GrowK (encA u8) 64 83 (slc b11 0 ((n : Int).toNat) ((n : Int).toNat)) (List.replicate ((n : Int).toNat) (List.replicate 64 (0 : BitVec 8))) Hs := ⟨_, hm3, GrowK.made⟩
 refine rw_q rfl (ev_build_pt (c := #[(slc b11 0 ((n : Int).toNat) ((n : Int).toNat)), (Value.slice none 0 0)]) (pl := [(0, 1), (1, 1)]) ti94 uT94 (by kernel_rfl) (pm_cons (i := 0) (v := (slc b11 0 ((n : Int).toNat) ((n : Int).toNat))) (cs := #[(slc b11 0 ((n : Int).toNat) ((n : Int).toNat))]) rfl (one_cells g3.one) pm_nil) (by kernel_rfl)) <| rw_c rfl (or_boxX (cs := #[(slc b11 0 ((n : Int).toNat) ((n : Int).toNat)), (Value.slice none 0 0)]) hm3 rfl) ?_
 rintro _ w4 ⟨b13, rfl, _ew4, hm4⟩
 refine rw_q rfl (ev_assign (v := (ptr b13 0)) rfl) <| rw_q rfl (ev_assign (v := (i64 0)) rfl) ?_
 refine rN (cw_ret ?_)
 refine fnPost_ret [(ptr b13 0), (i64 0)] ⟨rfl, rfl, trivial⟩ ?_
 exact ⟨b13, (slc b11 0 ((n : Int).toNat) ((n : Int).toNat)), Hs3, rfl, GrowK.cast g3 (by simp), (by
   have hT := hm4
   try simp only [List.append_assoc, List.cons_append, List.nil_append, List.append_nil] at hT ⊢
   exact hT)⟩

theorem c_there (bd : Nat) (vl : Value) (ls : List (List (BitVec 8))) (vp : Value) (n : Int) (w0 : World)  (hd : blks w0 bd = some (.cells #[vl, vp] 94 (0, 0))) (hrl : RdK (blks w0) (encA u8) 64 vl ls) (hll : ls.length ≤ 65536) : CallsR Try.prog 67 #[(ptr bd 0), (i64 n)] w0 (fun r w1 => r = (bl (inB ls n)) ∧ Ext w0 w1) := by
 refine callsR_of_cw (args := [(ptr bd 0), (i64 n)]) Try.func67 rfl Try.ntmps67 Try.results67 rfl ?_
 have hm0 : Mem w0 (restOf w0) [] := Mem.of_world w0
 refine sR <| rw_q rfl (ev_assign (v := (bl false)) rfl) ?_
 refine rN (sR ?_)
 refine rw_q rfl (ev_move (v := (i64 n)) rfl) <| rw_q rfl (ev_i64_geq (b := 0) rfl rfl) <| rw_q rfl (ev_move (v := (bl (decide (0 ≤ n)))) rfl) ?_
 rcases Bool.eq_false_or_eq_true (decide (0 ≤ n)) with hb1 | hb1
 · -- true
   have hb1p := of_decide_eq_true hb1
   refine rw_gyq (s := 7) rfl rfl hb1 rfl (ev_move (v := (i64 n)) rfl) <| rw_gyq (s := 7) rfl rfl hb1 rfl (ev_move (v := (ptr bd 0)) rfl) <| rw_gyq (s := 7) rfl rfl hb1 rfl (ev_nilCheck rfl) <| rw_gyq (s := 7) rfl rfl hb1 rfl (ev_fa (r := 0) uT94 rfl (by first | rfl | omega) ti40 rfl rfl) <| rw_gyq (s := 7) rfl rfl hb1 rfl (ev_load1 uT40 rfl rfl (hm0.rest _ _ hd) rfl) <| rw_gyq (s := 7) rfl rfl hb1 rfl (ev_len_rk (RdK.ofRest hrl hm0) uT40 rfl) ?_
   refine rw_gyq (s := 7) rfl rfl hb1 rfl (ev_i64_lss rfl rfl) <| rw_q rfl (ev_pick_tk rfl hb1 rfl) <| rw_q rfl (ev_assign (v := (bl (decide (n < (ls.length : Int))))) rfl) ?_
   refine rN (cw_ret ?_)
   refine fnPost_ret [(bl (decide (n < (ls.length : Int))))] ⟨rfl, trivial⟩ ?_
   exact ⟨congrArg bl (show _ = inB ls n from by unfold inB; rw [hb1, Bool.true_and]), hm0.toExt⟩
 · -- false
   have hb1p := of_decide_eq_false hb1
   refine rw_gn (s := 7) rfl rfl hb1 rfl <| rw_gn (s := 7) rfl rfl hb1 rfl <| rw_gn (s := 7) rfl rfl hb1 rfl <| rw_gn (s := 7) rfl rfl hb1 rfl <| rw_gn (s := 7) rfl rfl hb1 rfl <| rw_gn (s := 7) rfl rfl hb1 rfl ?_
   refine rw_gn (s := 7) rfl rfl hb1 rfl <| rw_q rfl (ev_pick_fk rfl hb1 rfl) <| rw_q rfl (ev_assign (v := (bl false)) rfl) ?_
   refine rN (cw_ret ?_)
   refine fnPost_ret [(bl false)] ⟨rfl, trivial⟩ ?_
   exact ⟨congrArg bl (show false = inB ls n from by unfold inB; rw [hb1]; rfl), hm0.toExt⟩

set_option maxHeartbeats 1000000 in
theorem c_dwrite (bd : Nat) (vl : Value) (ls : List (List (BitVec 8))) (Hl : List (Nat × Obj)) (vp : Value) (ps : List WriteT) (Hp : List (Nat × Obj)) (n : Int) (b : List (BitVec 8)) (w0 : World) (R : Rest) (hm0 : Mem w0 R ([(bd, .cells #[vl, vp] 94 (0, 0))] ++ (Hl ++ (Hp ++ ([]))))) (gl : GrowK (encA u8) 64 83 vl ls Hl) (gp : GrowK encW 65 104 vp ps Hp) (hll : ls.length ≤ 65536) (hpl : ps.length ≤ 1048576) (hbl : b.length = 64) : CallsR Try.prog 45 #[(ptr bd 0), (i64 n), (agg u8 b)] w0 (fun r w1 => ∃ vp2 Hp2, r = i64 (errB ls n) ∧ GrowK encW 65 104 vp2 (pushB ls ps n b) Hp2 ∧ Mem w1 R ([(bd, .cells #[vl, vp2] 94 (0, 0))] ++ (Hl ++ (Hp2 ++ ([]))))) := by
 refine callsR_of_cw (args := [(ptr bd 0), (i64 n), (agg u8 b)]) Try.func45 rfl Try.ntmps45 Try.results45 rfl <| sR <| rw_c rfl (or_box_agg (f := u8) (l := b) hm0 rfl) ?_
 rintro _ w1 ⟨b5, rfl, _ew1, hm1⟩
 refine rw_q rfl (ev_assign (v := (i64 0)) rfl) ?_
 refine rN (cw_seq (sR ?_))
 refine rw_q rfl (ev_move (v := (ptr bd 0)) rfl) <| rw_q rfl (ev_move (v := (i64 n)) rfl) <| rw_c rfl (opR_call Try.func67 bd67 nm67 (args2 rfl rfl) (c_there bd vl ls vp n _ hm1.h1 (gl.rd (Mem.pick [_, _] Hl _ hm1)) sL)) ?_
 rintro _ w2 ⟨rfl, _ew2⟩
 have hm2 := hm1.ext _ew2
 refine rw_q rfl (ev_not rfl) <| rN ?_
 refine cw_cond rfl (fun hc4 => ?_) (fun hc4 => ?_)
 · -- true
   have hc4n : (inB ls n) = false := by simpa using hc4
   refine sR <| rw_q rfl (ev_assign (v := (i64 2)) rfl) ?_
   refine rN (cw_ret (kThen_ret ?_))
   refine fnPost_ret [(i64 2)] ⟨rfl, trivial⟩ ?_
   have hm5 := Mem.drop ([(b5, .cells (cl u8 b) 83 (0, 0))]) _ hm2
   have hin : inB ls n = false := (by simpa using hc4)
   exact ⟨vp, Hp, (by unfold errB; rw [hin]; rfl), GrowK.cast gp (by unfold pushB; rw [hin]; rfl), (by
     have hT := hm5
     try simp only [List.append_assoc, List.cons_append, List.nil_append, List.append_nil] at hT ⊢
     exact hT)⟩
 · -- false
   have hc4n : (inB ls n) = true := by simpa using hc4
   refine cw_skip (kThen_normal (cw_seq ?_))
   refine cw_drawE (by kernel_rfl) ?_
   have hm6 := (Mem.pick [_, _] Hl _ hm2)
   have hm7 := (Mem.pick2 Hl [_] [_] _ hm6)
   have hm8 := (Mem.pick2 [_] Hl [_] _ hm7)
   have hm9 := (Mem.pick2 [_, _] Hl Hp _ hm8)
   have hFM10 : Mem w2 R ((Hp ++ ([])) ++ ([(b5, .cells (cl u8 b) 83 (0, 0)), (bd, .cells #[vl, vp] 94 (0, 0))] ++ (Hl ++ ([])))) := (by
     have hT := hm9
     try simp only [List.append_assoc, List.cons_append, List.nil_append, List.append_nil] at hT ⊢
     exact hT)
   obtain ⟨RM10, hRM10⟩ : ∃ R2, R2 = Rest.add R ([(b5, .cells (cl u8 b) 83 (0, 0)), (bd, .cells #[vl, vp] 94 (0, 0))] ++ (Hl ++ ([]))) := ⟨_, rfl⟩
   have M100 : Mem w2 RM10 (Hp ++ ([])) := by rw [hRM10]; exact Mem.give hFM10
   have ho11 : RM10.blk b5 = some (.cells (cl u8 b) 83 (0, 0)) := by rw [hRM10]; exact Mem.addOwn hFM10 (List.mem_append_left _ (List.Mem.head _))
   have ho12 : RM10.blk bd = some (.cells #[vl, vp] 94 (0, 0)) := by rw [hRM10]; exact Mem.addOwn hFM10 (List.mem_append_left _ (List.Mem.tail _ (List.Mem.head _)))
   have hg13 : RdK RM10.blk (encA u8) 64 vl ls := gl.rdIn (fun p hp => by rw [hRM10]; exact Mem.addOwn hFM10 (List.mem_append_right _ (List.mem_append_left _ hp)))
   refine re_planM M100 [(0, false), (1, false), (2, false), (3, false), (4, false), (5, false), (6, false), (7, false), (8, true), (9, true)] 10 rfl (by kernel_rfl) <| dk_q rfl rfl (fun w _H _hx => ev_move (v := (ptr bd 0)) rfl) <| dk_q rfl rfl (fun w _H _hx => ev_move (v := (ptr bd 0)) rfl) <| dk_q rfl rfl (fun w _H _hx => ev_nilCheck rfl) <| dk_q rfl rfl (fun w _H _hx => ev_fa (r := 1) uT94 rfl (by first | rfl | omega) ti92 rfl rfl) <| dk_q (v := vp) rfl rfl (fun w _H _hx => ev_load1 uT92 rfl rfl (_hx.rest _ _ ho12) rfl) ?_
   refine dk_q rfl rfl (fun w _H _hx => ev_move (v := (i64 n)) rfl) <| dk_q (v := (agg u8 b)) rfl rfl (fun w _H _hx => ev_loadA uT83 rfl ti83 rfl (_hx.rest _ _ ho11) (by rw [size_cl]; first | omega | (simp only [List.length_set, List.length_append, List.length_replicate, List.length_map, List.length_cons, List.length_nil]; omega) | (simp; done) | (simp; omega) | decide)) <| dk_q rfl rfl (fun w _H _hx => ev_build_pt (c := (segs [[(i64 n)], b.map u8])) (pl := [(0, 1), (1, 64)]) ti104 uT104 (by kernel_rfl) (pm_cons (i := 0) (v := (i64 n)) (cs := #[(i64 n)]) rfl rfl (pm_cons (i := 1) (v := (agg u8 b)) (cs := (cl u8 b)) rfl rfl pm_nil)) (fillA_segs [] [[(i64 0)]] [[(i64 n)]] [(List.replicate 64 0).map u8] rfl rfl fl_nil (fl_cons (n := 1) (m := 0) (k := 1) rfl fl_nil rfl) (fl_cons (n := 1) (m := 0) (k := 1) rfl fl_nil rfl) (fillA_segs [[(i64 n)]] [(List.replicate 64 0).map u8] [b.map u8] [] rfl (segs_one1 u8 _).symm (fl_cons (n := 1) (m := 0) (k := 1) rfl fl_nil rfl) (fl_cons (n := 64) (m := 0) (k := 64) (by first | rfl | (rw [List.length_map]; first | omega | (simp; done) | (simp; omega))) fl_nil rfl) (fl_cons (n := 64) (m := 0) (k := 64) (by first | rfl | (rw [List.length_map]; first | omega | (simp; done) | (simp; omega))) fl_nil rfl) fillA_nil))) ?_
   refine dk_c rfl rfl (fun w14 _ew14 => ?_)
   have hm14 := M100.ext _ew14
   refine OpR.mono (or_buildSlice_k1 (cs := (segs [[(i64 n)], b.map u8])) hm14 uT92 ti104 rfl rfl rfl (by rw [segs_size]; simp; omega)) ?_
   rintro _ w15 ⟨b19, rfl, _ew15, hm15⟩
   have hm15 : Mem w15 RM10 ([(b19, .cells (segs [[(i64 n)], b.map u8]) 104 (0, 0))] ++ (Hp ++ ([]))) := hm15
   refine ⟨⟨_, hm15⟩, ?_⟩
   refine dk_c rfl rfl (fun w16 _ew16 => ?_)
   have hm16 := hm15.ext _ew16
   refine OpR.mono (or_appendK (enc := encW) (k := 65) (Hs := Hp) (H := [(b19, .cells (segs [[(i64 n)], b.map u8]) 104 (0, 0))]) (Mem.pick [_] Hp _ hm16) gp rfl rfl (RdK.ofOne (enc := encW) (k := 65) (a := (WriteT.mk n b)) hm16.h0 rfl (encW_len oM)) uT92 uT92 ti104 rfl rfl (fun a _ => encW_one a) sL sL) ?_
   rintro sv17 w17 ⟨Hs17, hm17, g17⟩
   replace g17 : GrowK encW 65 104 sv17 (ps ++ ([(WriteT.mk n b)])) Hs17 := g17
   refine ⟨⟨_, hm17⟩, ?_⟩
   refine dw_nil (fun w18 _ew18 => ?_)
   have hm18 := hm17.ext _ew18
   have hX19 := hm18
   rw [hRM10] at hX19
   have hm20 : Mem w18 R (Hs17 ++ ([(b19, .cells (segs [[(i64 n)], b.map u8]) 104 (0, 0)), (b5, .cells (cl u8 b) 83 (0, 0)), (bd, .cells #[vl, vp] 94 (0, 0))] ++ (Hl ++ ([])))) := (by
     have hT := Mem.back hFM10 hX19
     try simp only [List.append_assoc, List.cons_append, List.nil_append, List.append_nil] at hT ⊢
     exact hT)
   refine rw_q rfl (ev_nilCheck rfl) <| rw_q rfl (ev_fa (r := 1) uT94 rfl (by first | rfl | omega) ti92 rfl rfl) <| rw_n (or_store1 ti92 rfl rfl g17.one ((Mem.pick2 Hs17 [_, _] [_] _ hm20)).h0 (by simp) (.inl (Nat.zero_le _))) ?_
   rintro _ w21 uq21
   have hm21 : Mem w21 R ([(bd, .cells #[vl, sv17] 94 (0, 0))] ++ (Hs17 ++ ([(b19, .cells (segs [[(i64 n)], b.map u8]) 104 (0, 0)), (b5, .cells (cl u8 b) 83 (0, 0))] ++ (Hl ++ ([]))))) := Mem.upd0 (Mem.pick2 Hs17 [_, _] [_] _ hm20) uq21
   refine rN (sR ?_)
   refine rw_q rfl (ev_assign (v := (i64 0)) rfl) ?_
   refine rN (cw_ret ?_)
   refine fnPost_ret [(i64 0)] ⟨rfl, trivial⟩ ?_
   have hm22 := Mem.drop ([(b19, .cells (segs [[(i64 n)], b.map u8]) 104 (0, 0))]) _ (Mem.pick2 [_] Hs17 [_] _ hm21)
   have hm23 := Mem.drop ([(b5, .cells (cl u8 b) 83 (0, 0))]) _ (Mem.pick2 [_] Hs17 [_] _ hm22)
   have hm24 := (Mem.pick [_] Hs17 _ hm23)
   have hm25 := (Mem.pick2 Hs17 [_] Hl _ hm24)
   have hm26 := (Mem.pick2 Hl Hs17 [_] _ hm25)
   have hin : inB ls n = true := (by simpa using hc4)
   exact ⟨sv17, Hs17, (by unfold errB; rw [hin]; rfl), GrowK.cast g17 (by unfold pushB; rw [hin]; rfl), (by
     have hT := hm26
     try simp only [List.append_assoc, List.cons_append, List.nil_append, List.append_nil] at hT ⊢
     exact hT)⟩


end --m
end Go.Proofs.Ytfbnhoolkajebaa
