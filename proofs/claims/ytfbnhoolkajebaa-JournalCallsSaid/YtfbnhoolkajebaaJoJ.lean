/- The law of a journal's calls: its walk. Conditions: none beyond those that each theorem states. -/
import Derived.Test.YtfbnhoolkajebaaJoI
namespace Go.Proofs.Ytfbnhoolkajebaa
set_option linter.unusedVariables false
set_option linter.unusedSimpArgs false
/-! ### The calls of a journal -/
def inR (n : Nat) : Bool := decide (1 ≤ n) && decide (n ≤ 100)
theorem inR_t {n : Nat} (h : inR n = true) : 1 ≤ n ∧ n ≤ 100 := by unfold inR at h; rw [Bool.and_eq_true] at h; exact ⟨of_decide_eq_true h.1, of_decide_eq_true h.2⟩
theorem inR_f {n : Nat} (h : inR n = false) : n = 0 ∨ 100 < n := by
  unfold inR at h; rw [Bool.and_eq_false_iff] at h
  rcases h with h | h
  · have := of_decide_eq_false h; omega
  · have := of_decide_eq_false h; omega
def badR (hh : Int) (n : Nat) (v : BitVec 64) : Bool := decide (hh < (n : Int)) || (v == 0#64)
theorem badR_t {hh : Int} {n : Nat} {v : BitVec 64} (h : badR hh n v = true) : hh < (n : Int) ∨ (v == 0#64) = true := by
  unfold badR at h; rw [Bool.or_eq_true] at h
  exact h.imp of_decide_eq_true id
theorem badR_f {hh : Int} {n : Nat} {v : BitVec 64} (h : badR hh n v = false) : (n : Int) ≤ hh ∧ (v == 0#64) = false := by
  unfold badR at h; rw [Bool.or_eq_false_iff] at h
  exact ⟨by have := of_decide_eq_false h.1; omega, h.2⟩
def fitsI (sz ja n : Int) : Bool := decide (0 ≤ n) && fitsB sz ja n.toNat
theorem fitsI_neg {sz ja n : Int} (h : decide (0 ≤ n) = false) : false = fitsI sz ja n := by unfold fitsI; rw [h]; rfl
theorem fitsI_pos {sz ja n : Int} (h : decide (0 ≤ n) = true) : fitsB sz ja n.toNat = fitsI sz ja n := by unfold fitsI; rw [h]; rfl
theorem fitsI_told {h r : Nat} {n : Int} (h0 : decide (0 ≤ n) = true) : fitsI (h : Int) (r : Int) n = decide (((if 1 > n then 1 else n) + 41) / 42 ≤ (h : Int) - (r : Int)) := by
  have h1 := of_decide_eq_true h0
  rw [← fitsI_pos h0]
  unfold fitsB
  rw [← Bool.decide_and, decide_eq_decide]
  have e : (blocksN n.toNat : Int) = ((if 1 > n then 1 else n) + 41) / 42 := by unfold blocksN; split <;> omega
  rw [e]
  constructor
  · exact fun h => h.2
  · intro h2; refine ⟨?_, h2⟩
    split at h2 <;> omega
section
variable {ls : List (List (BitVec 8))} {g : BitVec 64} {b : List (BitVec 8)} {L : List (List (BitVec 8))} {fr h : Nat} {fI : Int}
theorem restart_any (J : JI ls fr h g L) (hnew : (newB ls [] == 0#64) = false) (hb : blocksN b.length ≤ h) (hf : fI = ((h - fr : Nat) : Int)) : JI (crashB (turnL ls [] fI (newB ls []) [b]) (turnP ls [] fI (newB ls []) [b]) [1#8]) (h - fr) h (newB ls []) [b] := by
  obtain ⟨h1, h2⟩ := new_val hnew
  have ht := top_eq (ls := ls) ls.length (Nat.le_refl _)
  have hh := J.half
  exact turn_JI (okG_any J.all) (by rw [h1, ht]) oM oM J.len J.small (by simp) (by rw [room_1]; exact hb) hf
theorem open_again (J : JI ls fr h g L) (hnew : (newB ls [] == 0#64) = false) : JI (openD ls []) (h - fr) h (newB ls []) L := by
  obtain ⟨h1, h2⟩ := new_val hnew
  have ht := top_eq (ls := ls) ls.length (Nat.le_refl _)
  have hh := J.half; have hln := J.len
  unfold openD
  rw [J.old]
  exact turn_JI (okG_any J.all) (by rw [h1, ht]) oM oM hln J.small J.pos J.room (by show (ls.length : Int) / 2 - (fr : Int) = _; omega)
end
theorem bne_self (x : List (List (BitVec 8))) : (x != x) = false := by rw [bne_eq_false_iff_eq]
theorem el_app {L : List (List (BitVec 8))} {b : List (BitVec 8)} {n : Nat} (h : ∀ x ∈ L, x.length ≤ n) (hb : b.length ≤ n) : ∀ x ∈ L ++ [b], x.length ≤ n := fun x hx => by
  rcases List.mem_append.1 hx with h1 | h1
  · exact h x h1
  · obtain rfl := List.mem_singleton.1 h1; exact hb
theorem el_one {b : List (BitVec 8)} {n : Nat} (hb : b.length ≤ n) : ∀ x ∈ [b], x.length ≤ n := fun x hx => by obtain rfl := List.mem_singleton.1 hx; exact hb
theorem GrowL.mono {m0 : Nat → Option Obj} {E : TypeId} {v : Value} {ls : List SlT} {Hs : List (Nat × Obj)} (h : GrowL mN E v ls Hs) : GrowL m0 E v ls Hs := by
  obtain ⟨H1, He, e, g, q⟩ := h
  exact ⟨H1, He, e, g, fun p hp m hm h0 => q p hp m hm (fun b o hb => by cases hb)⟩
theorem opens_jcall : Opens Try.prog 47 (fun w cs => ∃ a : JCallT, cs = encJ a ∧ (encJ a).length = 3 ∧ (Rd (blks w) u8 (slv a.b) a.b.2 ∧ a.b.2.length ≤ 9223372036854775807)) :=
  (opens_sx3 (k0 := 1) (k1 := 1) (k2 := 1) uT47 (by kernel_rfl) rfl ⟨rfl, rfl, rfl⟩ ⟨by kernel_rfl, by kernel_rfl, by kernel_rfl⟩ (opens_i64 uT3) (opens_i64 uT3) (opens_bytes1 uT23 (by kernel_rfl) (opens_u8 uT5))).mono
    (by rintro w cs ⟨c0, c1, c2, rfl, ⟨n0, rfl, _⟩, ⟨n1, rfl, _⟩, ⟨v, rfl, s, rfl, h1, h2⟩⟩; exact ⟨⟨n0, n1, s⟩, by simp [encJ], by simp [encJ], h1, h2⟩)
theorem opens_block : Opens Try.prog 83 (fun w cs => ∃ a : List (BitVec 8), cs = encA u8 a ∧ (encA u8 a).length = 64 ∧ True) :=
  (opens_arr1 (f := u8) uT83 (by kernel_rfl) (by kernel_rfl) (opens_u8 uT5)).mono (by rintro w cs ⟨l, rfl, hl⟩; exact ⟨l, rfl, by simp [encA, hl], trivial⟩)
attribute [local irreducible] crashB crashK pushB readB inB errB cutN seenW
attribute [local irreducible] markB putB getB getK partB placeF blkOf rawB writeK blocksN
attribute [local irreducible] mostK newB roomB
attribute [local irreducible] recB recF recN genF badB lastP dataB gOf rOf pOf nOf loopH readH
attribute [local irreducible] okP layK turnL turnP oldB
attribute [local irreducible] openD
attribute [local irreducible] okG okV GB natB fitsB
attribute [local irreducible] syncF
attribute [local irreducible] gY rY pY nY wholeY dY halfL halfR diskR topK maxI
attribute [local irreducible] putD blksD layD
attribute [local irreducible] placeI blksK
attribute [local irreducible] rawK
attribute [local irreducible] inR badR fitsI

set_option maxHeartbeats 2000000 in
theorem c_jfitsI (bj bd : Nat) (fr0 sz : Int) (ge : BitVec 64) (vr : Value) (ja n : Int) (w0 : World)  (hj : blks w0 bj = some (.cells #[ptr bd 0, i64 fr0, i64 sz, u64 ge, vr, i64 ja] 100 (0, 0))) (hn : n ≤ 1048576) (hsz : 0 ≤ sz ∧ sz ≤ 1048576) (hja : 0 ≤ ja ∧ ja ≤ 1048576) : CallsR Try.prog 16 #[(ptr bj 0), (i64 n)] w0 (fun r w1 => r = (bl (fitsI sz ja n)) ∧ Ext w0 w1) := by
 refine callsR_of_cw (args := [(ptr bj 0), (i64 n)]) Try.func16 rfl Try.ntmps16 Try.results16 rfl ?_
 have hm0 : Mem w0 (restOf w0) [] := Mem.of_world w0
 refine sR <| rw_q rfl (ev_assign (v := (bl false)) rfl) ?_
 refine rN (cw_seq ?_)
 rcases Bool.eq_false_or_eq_true (decide (0 ≤ n)) with hb1 | hb1
 · -- true
   have hb1p := of_decide_eq_true hb1
   have hn0 := of_decide_eq_true hb1
   refine CW.abs (fun g => g 0 = (ptr bj 0) ∧ g 1 = (i64 (n.toNat : Int)) ∧ g 4 = (bl false) ∧ True) ⟨rfl, (Eq.trans rfl (show i64 n = i64 (n.toNat : Int) from congrArg i64 oM)), rfl, trivial⟩ ?_
   rintro fr2 ⟨s0, s1, s4, _⟩
   refine cw_draw [(0, false), (1, false), (2, false), (3, false), (4, false), (5, false), (6, false), (7, false), (8, false), (9, false), (10, false), (11, false), (12, false), (13, false), (14, false), (15, false), (16, false), (17, false), (18, false), (19, false), (20, false), (21, false), (22, false), (23, false), (24, false), (25, false)] 26 (by kernel_rfl) <| dM rfl rfl s1 <| dw_q rfl rfl (fun _ _hx => ev_i64_geq (b := 0) rfl rfl) <| dw_q rfl rfl (fun _ _hx => ev_move (v := (bl (decide (0 ≤ (n.toNat : Int))))) rfl) ?_
   have hd3 : (decide (0 ≤ (n.toNat : Int))) = true := decide_eq_true oM
   refine dw_gqy (s := 7) rfl rfl rfl hd3 rfl (fun _ _hx => ev_move s1) <| dw_gqy (s := 7) rfl rfl rfl hd3 rfl (fun _ _hx => ev_move s0) <| dw_gqy (s := 7) rfl rfl rfl hd3 rfl (fun _ _hx => ev_nilCheck rfl) <| dw_gqy (s := 7) rfl rfl rfl hd3 rfl (fun _ _hx => ev_fa (r := 1) uT100 rfl (by first | rfl | omega) ti97 rfl rfl) <| dw_gqy (s := 7) rfl rfl rfl hd3 rfl (fun _ _hx => ev_fa (r := 2) uT97 rfl (by first | rfl | omega) ti3 rfl rfl) <| dw_gqy (s := 7) rfl rfl rfl hd3 rfl (fun _ _hx => ev_load1 uT3 rfl rfl ((hm0.ext _hx).rest _ _ hj) rfl) ?_
   refine dw_gqy (s := 7) rfl rfl rfl hd3 rfl (fun _ _hx => ev_i64_mul (b := 42) rfl rfl oM oM) <| dw_gqy (s := 7) rfl rfl rfl hd3 rfl (fun _ _hx => ev_i64_leq rfl rfl) <| dw_q rfl rfl (fun _ _hx => ev_pick_tk rfl hd3 rfl) <| dw_q rfl rfl (fun _ _hx => ev_move (v := (bl (decide ((n.toNat : Int) ≤ (sz * 42))))) rfl) ?_
   rcases Bool.eq_false_or_eq_true (decide ((n.toNat : Int) ≤ (sz * 42))) with hb4 | hb4
   · -- true
     have hb4p := of_decide_eq_true hb4
     refine dw_gqy (s := 17) rfl rfl rfl hb4 rfl (fun _ _hx => ev_move s1) <| dw_gxy (s := 17) (v := (i64 (blocksN n.toNat : Int))) rfl rfl rfl hb4 rfl (fun w5 _ew5 => OpR.mono (opR_call Try.func53 bd53 nm53 (args1 rfl) (c_jblocks n.toNat _ sL)) (by rintro _ w6 ⟨rfl, _ew6⟩; exact ⟨rfl, _ew6⟩)) <| dw_gqy (s := 17) rfl rfl rfl hb4 rfl (fun _ _hx => ev_move s0) <| dw_gqy (s := 17) rfl rfl rfl hb4 rfl (fun _ _hx => ev_nilCheck rfl) <| dw_gqy (s := 17) rfl rfl rfl hb4 rfl (fun _ _hx => ev_fa (r := 1) uT100 rfl (by first | rfl | omega) ti97 rfl rfl) <| dw_gqy (s := 17) rfl rfl rfl hb4 rfl (fun _ _hx => ev_fa (r := 2) uT97 rfl (by first | rfl | omega) ti3 rfl rfl) ?_
     refine dw_gqy (s := 17) rfl rfl rfl hb4 rfl (fun _ _hx => ev_load1 uT3 rfl rfl ((hm0.ext _hx).rest _ _ hj) rfl) <| dw_gqy (s := 17) rfl rfl rfl hb4 rfl (fun _ _hx => ev_move s0) <| dw_gqy (s := 17) rfl rfl rfl hb4 rfl (fun _ _hx => ev_nilCheck rfl) <| dw_gqy (s := 17) rfl rfl rfl hb4 rfl (fun _ _hx => ev_fa (r := 1) uT100 rfl (by first | rfl | omega) ti97 rfl rfl) <| dw_gqy (s := 17) rfl rfl rfl hb4 rfl (fun _ _hx => ev_fa (r := 5) uT97 rfl (by first | rfl | omega) ti3 rfl rfl) <| dw_gqy (s := 17) rfl rfl rfl hb4 rfl (fun _ _hx => ev_load1 uT3 rfl rfl ((hm0.ext _hx).rest _ _ hj) rfl) ?_
     refine dw_gqy (s := 17) rfl rfl rfl hb4 rfl (fun _ _hx => ev_i64_sub rfl rfl oM oM) ?_
     refine dw_nil (fun w8 _ew8 => ?_)
     have hm8 := hm0.ext _ew8
     refine rw_gyq (s := 17) rfl rfl hb4 rfl (ev_i64_leq rfl rfl) <| rw_q rfl (ev_pick_tk rfl hb4 rfl) <| rw_q rfl (ev_assign (v := (bl (decide ((blocksN n.toNat : Int) ≤ (sz - ja))))) rfl) <| rN ?_
     refine CW.abs (fun g => g 0 = (ptr bj 0) ∧ g 1 = (i64 (n.toNat : Int)) ∧ g 4 = (bl (decide ((blocksN n.toNat : Int) ≤ (sz - ja)))) ∧ True) ⟨s0, s1, rfl, trivial⟩ ?_
     rintro fr9 ⟨s0, s1, s4, _⟩
     refine cw_ret <| fnPost_ret [(bl (decide ((blocksN n.toNat : Int) ≤ (sz - ja))))] ⟨s4, trivial⟩ ?_
     exact ⟨congrArg bl ((show _ = fitsB sz ja n.toNat by unfold fitsB; simp only [hb4, Bool.true_and, Bool.false_and, Bool.and_true, Bool.and_false]).trans (fitsI_pos hb1)), hm8.toExt⟩
   · -- false
     have hb4p := of_decide_eq_false hb4
     refine dw_gqn (s := 17) rfl rfl rfl hb4 rfl <| dw_gqn (s := 17) rfl rfl rfl hb4 rfl <| dw_gqn (s := 17) rfl rfl rfl hb4 rfl <| dw_gqn (s := 17) rfl rfl rfl hb4 rfl <| dw_gqn (s := 17) rfl rfl rfl hb4 rfl <| dw_gqn (s := 17) rfl rfl rfl hb4 rfl ?_
     refine dw_gqn (s := 17) rfl rfl rfl hb4 rfl <| dw_gqn (s := 17) rfl rfl rfl hb4 rfl <| dw_gqn (s := 17) rfl rfl rfl hb4 rfl <| dw_gqn (s := 17) rfl rfl rfl hb4 rfl <| dw_gqn (s := 17) rfl rfl rfl hb4 rfl <| dw_gqn (s := 17) rfl rfl rfl hb4 rfl ?_
     refine dw_gqn (s := 17) rfl rfl rfl hb4 rfl ?_
     refine dw_nil (fun w10 _ew10 => ?_)
     have hm10 := hm0.ext _ew10
     refine rw_gn (s := 17) rfl rfl hb4 rfl <| rw_q rfl (ev_pick_fk rfl hb4 rfl) <| rw_q rfl (ev_assign (v := (bl false)) rfl) <| rN ?_
     refine CW.abs (fun g => g 0 = (ptr bj 0) ∧ g 1 = (i64 (n.toNat : Int)) ∧ g 4 = (bl false) ∧ True) ⟨s0, s1, rfl, trivial⟩ ?_
     rintro fr11 ⟨s0, s1, s4, _⟩
     refine cw_ret <| fnPost_ret [(bl false)] ⟨s4, trivial⟩ ?_
     exact ⟨congrArg bl ((show _ = fitsB sz ja n.toNat by unfold fitsB; simp only [hb4, Bool.true_and, Bool.false_and, Bool.and_true, Bool.and_false]).trans (fitsI_pos hb1)), hm10.toExt⟩
 · -- false
   have hb1p := of_decide_eq_false hb1
   refine cw_draw [(0, false), (1, false), (2, false), (3, false), (4, false), (5, false), (6, false), (7, false), (8, false), (9, false), (10, false), (11, false), (12, false), (13, false), (14, false), (15, false), (16, false), (17, false), (18, false), (19, false), (20, false), (21, false), (22, false), (23, false), (24, false), (25, false)] 26 (by kernel_rfl) <| dw_q rfl rfl (fun _ _hx => ev_move (v := (i64 n)) rfl) <| dw_q rfl rfl (fun _ _hx => ev_i64_geq (b := 0) rfl rfl) <| dw_q rfl rfl (fun _ _hx => ev_move (v := (bl (decide (0 ≤ n)))) rfl) <| dw_gqn (s := 7) rfl rfl rfl hb1 rfl <| dw_gqn (s := 7) rfl rfl rfl hb1 rfl ?_
   refine dw_gqn (s := 7) rfl rfl rfl hb1 rfl <| dw_gqn (s := 7) rfl rfl rfl hb1 rfl <| dw_gqn (s := 7) rfl rfl rfl hb1 rfl <| dw_gqn (s := 7) rfl rfl rfl hb1 rfl <| dw_gqn (s := 7) rfl rfl rfl hb1 rfl <| dw_gqn (s := 7) rfl rfl rfl hb1 rfl ?_
   refine dw_q rfl rfl (fun _ _hx => ev_pick_fk rfl hb1 rfl) <| dw_q rfl rfl (fun _ _hx => ev_move (v := (bl false)) rfl) <| dw_gqn (s := 17) rfl rfl rfl rfl rfl <| dw_gqn (s := 17) rfl rfl rfl rfl rfl <| dw_gqn (s := 17) rfl rfl rfl rfl rfl <| dw_gqn (s := 17) rfl rfl rfl rfl rfl ?_
   refine dw_gqn (s := 17) rfl rfl rfl rfl rfl <| dw_gqn (s := 17) rfl rfl rfl rfl rfl <| dw_gqn (s := 17) rfl rfl rfl rfl rfl <| dw_gqn (s := 17) rfl rfl rfl rfl rfl <| dw_gqn (s := 17) rfl rfl rfl rfl rfl <| dw_gqn (s := 17) rfl rfl rfl rfl rfl ?_
   refine dw_gqn (s := 17) rfl rfl rfl rfl rfl <| dw_gqn (s := 17) rfl rfl rfl rfl rfl <| dw_gqn (s := 17) rfl rfl rfl rfl rfl ?_
   refine dw_nil (fun w12 _ew12 => ?_)
   have hm12 := hm0.ext _ew12
   refine rw_gn (s := 17) rfl rfl rfl rfl <| rw_q rfl (ev_pick_f rfl rfl) <| rw_q rfl (ev_assign (v := (bl false)) rfl) <| rN ?_
   refine CW.abs (fun g => g 0 = (ptr bj 0) ∧ g 1 = (i64 n) ∧ g 4 = (bl false) ∧ True) ⟨rfl, rfl, rfl, trivial⟩ ?_
   rintro fr13 ⟨s0, s1, s4, _⟩
   refine cw_ret <| fnPost_ret [(bl false)] ⟨s4, trivial⟩ ?_
   exact ⟨congrArg bl (fitsI_neg hb1), hm12.toExt⟩

set_option maxHeartbeats 16000000 in
theorem law_jcalls (vB : Value) (lB : List (List (BitVec 8))) (vc : Value) (lc : List JCallT) (w0 : World)  (hb : RdK (blks w0) (encA u8) 64 vB lB) (hbn : lB.length ≤ 9223372036854775807) (hrc : RdK (blks w0) encJ 3 vc lc) (hqc : ∀ a ∈ lc, Rd (blks w0) u8 (slv a.b) a.b.2) (hqe : ∀ a ∈ lc, a.b.2.length ≤ 9223372036854775807) (hlc : lc.length ≤ 9223372036854775807) : CallsR Try.prog 5 #[vB, vc] w0 (fun r w1 => r = bl true ∧ RowKit.Below w0.heap.size w0 w1) := by
 refine callsR_of_cw (args := [vB, vc]) Try.func5 rfl Try.ntmps5 Try.results5 rfl ?_
 have hm0 : Mem w0 (restOf w0) [] := Mem.of_world w0
 refine sR <| rw_q rfl (ev_assign (v := (bl false)) rfl) ?_
 refine rN (cw_seq (sR ?_))
 refine rw_c rfl (opR_call Try.func12 bd12 nm12 (args0) (c_speaks15 _)) ?_
 rintro _ w1 ⟨rfl, _ew1⟩
 have hm1 := hm0.ext _ew1
 refine rw_q (v := (bl false)) rfl (ev_not (b := true) rfl) <| rN <| cw_cond_f rfl (by decide) ?_
 refine cw_skip (kThen_normal (cw_seq ?_))
 rcases Bool.eq_false_or_eq_true (inR lB.length) with hb3 | hb3
 · -- true
   have hnn := inR_t hb3
   refine cw_region <| rM rfl (v := vB) rfl <| rw_c rfl (opR_call Try.func22 bd22 nm22 (args1 rfl) (c_raw1 vB lB _ (RdK.ofRest hb hm1) sL)) ?_
   rintro _ w4 ⟨bdq5, vlq5, Hlq5, rfl, glq5, k_w4⟩
   have hm4 : Mem w4 (restOf w0) ([(bdq5, .cells #[vlq5, (Value.slice none 0 0)] 94 (0, 0))] ++ (Hlq5 ++ ([]))) := (by
     have hT := Mem.new (H := []) (H' := _) hm1 k_w4
     try simp only [List.append_assoc, List.cons_append, List.nil_append, List.append_nil] at hT ⊢
     exact hT)
   refine rw_q rfl (ev_assign (v := (ptr bdq5 0)) rfl) ?_
   refine rN (cw_seq (cw_seq ?_))
   rcases Bool.eq_false_or_eq_true (decide (lB.length < 4)) with hb6 | hb6
   · -- true
     have hb6p := of_decide_eq_true hb6
     have hn4 := of_decide_eq_true hb6
     refine cw_region <| rw_q rfl (ev_move (v := (ptr bdq5 0)) rfl) <| rw_q rfl (ev_ptr_nil_eql uT25 rfl rfl) <| rw_q rfl (ev_move (v := (bl false)) rfl) <| rw_gyq (s := 26) rfl rfl rfl rfl (ev_move (v := vc) rfl) <| rw_gy (s := 26) rfl rfl rfl rfl (opR_call Try.func23 bd23 nm23 (args1 rfl) (c_great15 vc lc _ (RdK.ofRest hrc hm4) (fun a h => Rd.ofRest (hqc a h) hm4) sL sL)) ?_
     rintro _ w7 ⟨gq8, rfl, hgq8, k_w7⟩
     have hm7 : Mem w7 (restOf w0) ([(bdq5, .cells #[vlq5, (Value.slice none 0 0)] 94 (0, 0))] ++ (Hlq5 ++ ([]))) := Mem.new (H := [(bdq5, .cells #[vlq5, (Value.slice none 0 0)] 94 (0, 0))] ++ (Hlq5 ++ ([]))) (H' := []) hm4 k_w7
     refine rw_q rfl (ev_pick_f rfl rfl) <| rN ?_
     refine cw_cond rfl (fun hc9 => ?_) (fun hc9 => ?_)
     · -- true
       refine sR <| rw_q rfl (ev_assign (v := (bl true)) rfl) ?_
       refine rN (cw_ret (kThen_ret ?_))
       refine fnPost_ret [(bl true)] ⟨rfl, trivial⟩ ?_
       exact ⟨rfl, Mem.below w0 hm7⟩
     · -- false
       have hgc := hgq8 hc9
       refine cw_skip (kThen_normal (cw_seq ?_))
       rcases Bool.eq_false_or_eq_true (newB lB [] == 0#64) with hb10 | hb10
       · -- true
         have hb10p := eq_of_beq hb10
         refine cw_region <| rw_q rfl (ev_move (v := (ptr bdq5 0)) rfl) ?_
         have hF12 : Mem w7 (restOf w0) (([(bdq5, .cells #[vlq5, (Value.slice none 0 0)] 94 (0, 0))] ++ (Hlq5 ++ ([]))) ++ ([])) := by
           have hT := (Mem.pick Hlq5 [_] _ (Mem.pick [_] Hlq5 _ hm7))
           try simp only [List.append_assoc, List.cons_append, List.nil_append, List.append_nil] at hT ⊢
           exact hT
         refine rw_c rfl (opR_call Try.func24 bd24 nm24 (args1 rfl) (c_opens0 bdq5 vlq5 lB Hlq5 _ _ (Mem.give hF12) glq5 sL)) ?_
         rintro _ w11 ⟨rfl, k_w11⟩
         have hm11 : Mem w11 (restOf w0) ([(bdq5, .cells #[vlq5, (Value.slice none 0 0)] 94 (0, 0))] ++ (Hlq5 ++ ([]))) := (by
           have hT := Mem.back hF12 k_w11
           try simp only [List.append_assoc, List.cons_append, List.nil_append, List.append_nil] at hT ⊢
           exact hT)
         refine rw_q rfl (ev_move (v := (Value.tuple #[(Value.pointer none), (bl true)])) rfl) <| rw_q (v := (Value.pointer none)) rfl (ev_extract rfl rfl) <| rw_q (v := (bl true)) rfl (ev_extract rfl rfl) <| rw_q rfl (ev_assign (v := (Value.pointer none)) rfl) <| rw_q rfl (ev_assign (v := (bl true)) rfl) <| rN ?_
         refine CW.abs (fun g => g 0 = vB ∧ g 1 = vc ∧ g 4 = (bl false) ∧ g 5 = (ptr bdq5 0) ∧ g 6 = (Value.pointer none) ∧ g 7 = (bl true) ∧ g 21 = (bl false) ∧ g 29 = (bl gq8) ∧ True) ⟨rfl, rfl, rfl, rfl, rfl, rfl, rfl, rfl, trivial⟩ ?_
         rintro fr14 ⟨s0, s1, s4, s5, s6, s7, s21, s29, _⟩
         refine cw_seq (sR ?_)
         refine rM rfl s7 <| rw_q (v := (bl false)) rfl (ev_not (b := true) rfl) <| rw_q rfl (ev_move (v := (bl false)) rfl) <| rw_gyq (s := 37) rfl rfl rfl rfl (ev_move s6) <| rw_gyq (s := 37) rfl rfl rfl rfl (ev_nil_nil_eql uT29 rfl rfl) <| rw_q rfl (ev_pick_f rfl rfl) ?_
         refine rN <| cw_cond_t rfl (by decide) <| sR <| rM rfl s7 <| rw_q rfl (ev_assign (v := (bl true)) rfl) ?_
         refine rN (cw_ret (kThen_ret ?_))
         refine fnPost_ret [(bl true)] ⟨rfl, trivial⟩ ?_
         exact ⟨rfl, Mem.below w0 hm11⟩
       · -- false
         have hb10p := ne_of_beq_false hb10
         refine cw_region <| rw_q rfl (ev_move (v := (ptr bdq5 0)) rfl) ?_
         have hF16 : Mem w7 (restOf w0) (([(bdq5, .cells #[vlq5, (Value.slice none 0 0)] 94 (0, 0))] ++ (Hlq5 ++ ([]))) ++ ([])) := by
           have hT := (Mem.pick Hlq5 [_] _ (Mem.pick [_] Hlq5 _ hm7))
           try simp only [List.append_assoc, List.cons_append, List.nil_append, List.append_nil] at hT ⊢
           exact hT
         refine rw_c rfl (opR_call Try.func24 bd24 nm24 (args1 rfl) (c_opens0 bdq5 vlq5 lB Hlq5 _ _ (Mem.give hF16) glq5 sL)) ?_
         rintro _ w15 ⟨rfl, k_w15⟩
         have hm15 : Mem w15 (restOf w0) ([(bdq5, .cells #[vlq5, (Value.slice none 0 0)] 94 (0, 0))] ++ (Hlq5 ++ ([]))) := (by
           have hT := Mem.back hF16 k_w15
           try simp only [List.append_assoc, List.cons_append, List.nil_append, List.append_nil] at hT ⊢
           exact hT)
         refine rw_q rfl (ev_move (v := (Value.tuple #[(Value.pointer none), (bl true)])) rfl) <| rw_q (v := (Value.pointer none)) rfl (ev_extract rfl rfl) <| rw_q (v := (bl true)) rfl (ev_extract rfl rfl) <| rw_q rfl (ev_assign (v := (Value.pointer none)) rfl) <| rw_q rfl (ev_assign (v := (bl true)) rfl) <| rN ?_
         refine CW.abs (fun g => g 0 = vB ∧ g 1 = vc ∧ g 4 = (bl false) ∧ g 5 = (ptr bdq5 0) ∧ g 6 = (Value.pointer none) ∧ g 7 = (bl true) ∧ g 21 = (bl false) ∧ g 29 = (bl gq8) ∧ True) ⟨rfl, rfl, rfl, rfl, rfl, rfl, rfl, rfl, trivial⟩ ?_
         rintro fr18 ⟨s0, s1, s4, s5, s6, s7, s21, s29, _⟩
         refine cw_seq (sR ?_)
         refine rM rfl s7 <| rw_q (v := (bl false)) rfl (ev_not (b := true) rfl) <| rw_q rfl (ev_move (v := (bl false)) rfl) <| rw_gyq (s := 37) rfl rfl rfl rfl (ev_move s6) <| rw_gyq (s := 37) rfl rfl rfl rfl (ev_nil_nil_eql uT29 rfl rfl) <| rw_q rfl (ev_pick_f rfl rfl) ?_
         refine rN <| cw_cond_t rfl (by decide) <| sR <| rM rfl s7 <| rw_q rfl (ev_assign (v := (bl true)) rfl) ?_
         refine rN (cw_ret (kThen_ret ?_))
         refine fnPost_ret [(bl true)] ⟨rfl, trivial⟩ ?_
         exact ⟨rfl, Mem.below w0 hm15⟩
   · -- false
     have hb6p := of_decide_eq_false hb6
     have hn4 := of_decide_eq_false hb6
     refine cw_region <| rw_q rfl (ev_move (v := (ptr bdq5 0)) rfl) <| rw_q rfl (ev_ptr_nil_eql uT25 rfl rfl) <| rw_q rfl (ev_move (v := (bl false)) rfl) <| rw_gyq (s := 26) rfl rfl rfl rfl (ev_move (v := vc) rfl) <| rw_gy (s := 26) rfl rfl rfl rfl (opR_call Try.func23 bd23 nm23 (args1 rfl) (c_great15 vc lc _ (RdK.ofRest hrc hm4) (fun a h => Rd.ofRest (hqc a h) hm4) sL sL)) ?_
     rintro _ w19 ⟨gq20, rfl, hgq20, k_w19⟩
     have hm19 : Mem w19 (restOf w0) ([(bdq5, .cells #[vlq5, (Value.slice none 0 0)] 94 (0, 0))] ++ (Hlq5 ++ ([]))) := Mem.new (H := [(bdq5, .cells #[vlq5, (Value.slice none 0 0)] 94 (0, 0))] ++ (Hlq5 ++ ([]))) (H' := []) hm4 k_w19
     refine rw_q rfl (ev_pick_f rfl rfl) <| rN ?_
     refine cw_cond rfl (fun hc21 => ?_) (fun hc21 => ?_)
     · -- true
       refine sR <| rw_q rfl (ev_assign (v := (bl true)) rfl) ?_
       refine rN (cw_ret (kThen_ret ?_))
       refine fnPost_ret [(bl true)] ⟨rfl, trivial⟩ ?_
       exact ⟨rfl, Mem.below w0 hm19⟩
     · -- false
       have hgc := hgq20 hc21
       refine cw_skip (kThen_normal (cw_seq ?_))
       rcases Bool.eq_false_or_eq_true (newB lB [] == 0#64) with hb22 | hb22
       · -- true
         have hb22p := eq_of_beq hb22
         refine cw_region <| rw_q rfl (ev_move (v := (ptr bdq5 0)) rfl) ?_
         have hF24 : Mem w19 (restOf w0) (([(bdq5, .cells #[vlq5, (Value.slice none 0 0)] 94 (0, 0))] ++ (Hlq5 ++ ([]))) ++ ([])) := by
           have hT := (Mem.pick Hlq5 [_] _ (Mem.pick [_] Hlq5 _ hm19))
           try simp only [List.append_assoc, List.cons_append, List.nil_append, List.append_nil] at hT ⊢
           exact hT
         refine rw_c rfl (opR_call Try.func24 bd24 nm24 (args1 rfl) (c_opensF bdq5 vlq5 lB Hlq5 _ _ (Mem.give hF24) glq5 sL hb22)) ?_
         rintro _ w23 ⟨rfl, k_w23⟩
         have hm23 : Mem w23 (restOf w0) ([(bdq5, .cells #[vlq5, (Value.slice none 0 0)] 94 (0, 0))] ++ (Hlq5 ++ ([]))) := (by
           have hT := Mem.back hF24 k_w23
           try simp only [List.append_assoc, List.cons_append, List.nil_append, List.append_nil] at hT ⊢
           exact hT)
         refine rw_q rfl (ev_move (v := (Value.tuple #[(Value.pointer none), (bl true)])) rfl) <| rw_q (v := (Value.pointer none)) rfl (ev_extract rfl rfl) <| rw_q (v := (bl true)) rfl (ev_extract rfl rfl) <| rw_q rfl (ev_assign (v := (Value.pointer none)) rfl) <| rw_q rfl (ev_assign (v := (bl true)) rfl) <| rN ?_
         refine CW.abs (fun g => g 0 = vB ∧ g 1 = vc ∧ g 4 = (bl false) ∧ g 5 = (ptr bdq5 0) ∧ g 6 = (Value.pointer none) ∧ g 7 = (bl true) ∧ g 21 = (bl false) ∧ g 29 = (bl gq20) ∧ True) ⟨rfl, rfl, rfl, rfl, rfl, rfl, rfl, rfl, trivial⟩ ?_
         rintro fr26 ⟨s0, s1, s4, s5, s6, s7, s21, s29, _⟩
         refine cw_seq (sR ?_)
         refine rM rfl s7 <| rw_q (v := (bl false)) rfl (ev_not (b := true) rfl) <| rw_q rfl (ev_move (v := (bl false)) rfl) <| rw_gyq (s := 37) rfl rfl rfl rfl (ev_move s6) <| rw_gyq (s := 37) rfl rfl rfl rfl (ev_nil_nil_eql uT29 rfl rfl) <| rw_q rfl (ev_pick_f rfl rfl) ?_
         refine rN <| cw_cond_t rfl (by decide) <| sR <| rM rfl s7 <| rw_q rfl (ev_assign (v := (bl true)) rfl) ?_
         refine rN (cw_ret (kThen_ret ?_))
         refine fnPost_ret [(bl true)] ⟨rfl, trivial⟩ ?_
         exact ⟨rfl, Mem.below w0 hm23⟩
       · -- false
         have hb22p := ne_of_beq_false hb22
         refine cw_region <| rw_q rfl (ev_move (v := (ptr bdq5 0)) rfl) ?_
         have hF28 : Mem w19 (restOf w0) (([(bdq5, .cells #[vlq5, (Value.slice none 0 0)] 94 (0, 0))] ++ (Hlq5 ++ ([]))) ++ ([])) := by
           have hT := (Mem.pick Hlq5 [_] _ (Mem.pick [_] Hlq5 _ hm19))
           try simp only [List.append_assoc, List.cons_append, List.nil_append, List.append_nil] at hT ⊢
           exact hT
         refine rw_c rfl (opR_call Try.func24 bd24 nm24 (args1 rfl) (c_opens1 bdq5 vlq5 lB Hlq5 _ _ (Mem.give hF28) glq5 sL hb22)) ?_
         rintro _ w27 ⟨bnq29, vrq29, rsq29, Hrq29, Hl2q29, rfl, hMq29, hLq29, grq29, gl2q29, k_w27⟩
         have hm27 : Mem w27 (restOf w0) ([(bnq29, .cells #[(ptr bdq5 0), (i64 (((lB.length : Int) / 2) - (oldB lB []).1)), (i64 ((lB.length : Int) / 2)), (u64 (newB lB [])), vrq29, (i64 (roomB (oldB lB []).2 : Int))] 100 (0, 0))] ++ (Hrq29 ++ ([(bdq5, .cells #[vlq5, (Value.slice none 0 0)] 94 (0, 0))] ++ (Hl2q29 ++ ([]))))) := (by
           have hT := Mem.back hF28 k_w27
           try simp only [List.append_assoc, List.cons_append, List.nil_append, List.append_nil] at hT ⊢
           exact hT)
         obtain ⟨⟨fr0, hfr0, hfh0⟩, hop0, hor0⟩ := old_any (ls := lB) oM oM
         obtain ⟨hJ0, _⟩ := open_any (fr := fr0) (rdA_mem hb) oM oM hb22 hfr0
         obtain ⟨hh, hhh⟩ : ∃ q : Nat, q = lB.length / 2 := ⟨_, rfl⟩
         rw [← hhh] at hJ0
         have hel0 := old_el (ls := lB) oM
         obtain ⟨LW0, hLW0⟩ : ∃ q, q = (oldB lB []).2 := ⟨_, rfl⟩
         rw [← hLW0] at hJ0 hel0
         have hM0 : rsq29.map (·.2) = LW0 := by rw [hMq29, hLW0]
         have hm30 : Mem w27 (restOf w0) ([(bnq29, .cells #[(ptr bdq5 0), (i64 (fr0 : Int)), (i64 ((lB.length : Int) / 2)), (u64 (newB lB [])), vrq29, (i64 (roomB (oldB lB []).2 : Int))] 100 (0, 0))] ++ (Hrq29 ++ ([(bdq5, .cells #[vlq5, (Value.slice none 0 0)] 94 (0, 0))] ++ (Hl2q29 ++ ([]))))) := by rw [show (fr0 : Int) = (lB.length : Int) / 2 - (oldB lB []).1 by omega]; exact hm27
         have hm31 : Mem w27 (restOf w0) ([(bnq29, .cells #[(ptr bdq5 0), (i64 (fr0 : Int)), (i64 (hh : Int)), (u64 (newB lB [])), vrq29, (i64 (roomB (oldB lB []).2 : Int))] 100 (0, 0))] ++ (Hrq29 ++ ([(bdq5, .cells #[vlq5, (Value.slice none 0 0)] 94 (0, 0))] ++ (Hl2q29 ++ ([]))))) := by rw [show (hh : Int) = (lB.length : Int) / 2 by omega]; exact hm30
         have hm32 : Mem w27 (restOf w0) ([(bnq29, .cells #[(ptr bdq5 0), (i64 (fr0 : Int)), (i64 (hh : Int)), (u64 (newB lB [])), vrq29, (i64 (roomB LW0 : Int))] 100 (0, 0))] ++ (Hrq29 ++ ([(bdq5, .cells #[vlq5, (Value.slice none 0 0)] 94 (0, 0))] ++ (Hl2q29 ++ ([]))))) := by rw [show (roomB LW0 : Int) = (roomB (oldB lB []).2 : Int) by rw [hLW0]]; exact hm31
         have hodl : (openD lB []).length = lB.length := openD_len
         refine rw_q rfl (ev_move (v := (Value.tuple #[(ptr bnq29 0), (bl true)])) rfl) <| rw_q (v := (ptr bnq29 0)) rfl (ev_extract rfl rfl) <| rw_q (v := (bl true)) rfl (ev_extract rfl rfl) <| rw_q rfl (ev_assign (v := (ptr bnq29 0)) rfl) <| rw_q rfl (ev_assign (v := (bl true)) rfl) <| rN ?_
         refine CW.abs (fun g => g 0 = vB ∧ g 1 = vc ∧ g 4 = (bl false) ∧ g 5 = (ptr bdq5 0) ∧ g 6 = (ptr bnq29 0) ∧ g 7 = (bl true) ∧ g 21 = (bl false) ∧ g 29 = (bl gq20) ∧ True) ⟨rfl, rfl, rfl, rfl, rfl, rfl, rfl, rfl, trivial⟩ ?_
         rintro fr33 ⟨s0, s1, s4, s5, s6, s7, s21, s29, _⟩
         refine cw_seq (sR ?_)
         refine rM rfl s7 <| rw_q (v := (bl false)) rfl (ev_not (b := true) rfl) <| rw_q rfl (ev_move (v := (bl false)) rfl) <| rw_gyq (s := 37) rfl rfl rfl rfl (ev_move s6) <| rw_gyq (s := 37) rfl rfl rfl rfl (ev_ptr_nil_eql uT29 rfl rfl) <| rw_q rfl (ev_pick_f rfl rfl) ?_
         refine rN <| cw_cond_f rfl (by decide) ?_
         refine cw_skip (kThen_normal (sR ?_))
         refine rM rfl s0 <| rw_q (v := (i64 (lB.length : Int))) rfl (ev_len_rk (RdK.ofRest hb hm32) uT40 rfl) <| rw_q rfl (ev_i64_quo (b := 2) rfl rfl oM oM oM) <| rw_q rfl (ev_assign (v := (i64 ((lB.length : Int) / 2))) rfl) ?_
         refine rN (cw_seq (cw_seq ?_))
         refine CW.abs (fun g => g 0 = vB ∧ g 1 = vc ∧ g 4 = (bl false) ∧ g 5 = (ptr bdq5 0) ∧ g 6 = (ptr bnq29 0) ∧ g 7 = (bl true) ∧ g 8 = (i64 (hh : Int)) ∧ g 21 = (bl false) ∧ g 29 = (bl gq20) ∧ g 40 = (bl false) ∧ True) ⟨s0, s1, s4, s5, s6, s7, (Eq.trans rfl (show i64 ((lB.length : Int) / 2) = i64 (hh : Int) from congrArg i64 oM)), s21, s29, rfl, trivial⟩ ?_
         rintro fr34 ⟨s0, s1, s4, s5, s6, s7, s8, s21, s29, s40, _⟩
         refine cw_region <| rM rfl s1 <| rw_q (v := (i64 (lc.length : Int))) rfl (ev_len_rk (RdK.ofRest hrc hm32) uT41 rfl) <| rw_q rfl (ev_move (v := (i64 0)) rfl) ?_
         refine rN (cw_block ?_)
         refine cw_loop (fun g wv => ∃ (k bn fr : Nat) (ge : BitVec 64) (vr1 : Value) (rs1 : List SlT) (Hr1 : List (Nat × Obj)) (L1 : List (List (BitVec 8))) (Hl1 : List (Nat × Obj)) (LW : List (List (BitVec 8))), (k ≤ lc.length) ∧ (JI L1 fr hh ge LW) ∧ (rs1.map (·.2) = LW) ∧ (∀ b ∈ LW, b.length ≤ 42000) ∧ (GrowL mN 23 vr1 rs1 Hr1) ∧ (GrowK (encA u8) 64 83 vlq5 L1 Hl1) ∧ g 0 = vB ∧ g 1 = vc ∧ g 5 = (ptr bdq5 0) ∧ g 6 = (ptr bn 0) ∧ g 7 = (bl true) ∧ g 8 = (i64 (hh : Int)) ∧ g 21 = (bl false) ∧ g 29 = (bl gq20) ∧ g 40 = (bl false) ∧ g 45 = vc ∧ g 46 = (i64 (lc.length : Int)) ∧ g 47 = (i64 (k : Int)) ∧ Mem wv (restOf w0) ([(bn, .cells #[(ptr bdq5 0), (i64 (fr : Int)), (i64 (hh : Int)), (u64 ge), vr1, (i64 (roomB LW : Int))] 100 (0, 0))] ++ (Hr1 ++ ([(bdq5, .cells #[vlq5, (Value.slice none 0 0)] 94 (0, 0))] ++ (Hl1 ++ ([])))))) (fun g wv => ((lc.length : Int) - RowKit.intOf (g 47)).toNat) ?_ ?_
         · exact ⟨0, bnq29, fr0, (newB lB []), vrq29, rsq29, Hrq29, (openD lB []), Hl2q29, LW0, (Nat.zero_le _), hJ0, hM0, hel0, grq29, gl2q29, s0, s1, s5, s6, s7, s8, s21, s29, s40, rfl, rfl, rfl, (by
           have hT := hm32
           try simp only [List.append_assoc, List.cons_append, List.nil_append, List.append_nil] at hT ⊢
           exact hT)⟩
         · rintro fr35 w36 ⟨k, bn, fr, ge, vr1, rs1, Hr1, L1, Hl1, LW, hk, hJ, hMr, hel, gr1, gl1, s0, s1, s5, s6, s7, s8, s21, s29, s40, s45, s46, s47, hm36⟩
           have z6 := s6
           have z7 := s7
           have z8 := s8
           have z47 := s47
           have hlwr := congrArg List.length hMr; rw [List.length_map] at hlwr
           have hJl := hJ.len; have hJr := hJ.room; have hJh := hJ.half; have hJs := hJ.small; have hJp := hJ.pos
           have hrml := room_len (L := LW)
           refine sR <| rw_q rfl (ev_i64_lss s47 s46) ?_
           refine rN (cw_seq ?_)
           refine cw_cond rfl (fun hc37 => ?_) (fun hc37 => ?_)
           · -- true
             have hc37p := of_decide_eq_true hc37
             have hB0 := hgc.2 k oM
             have hbp0 := blocksN_pos (lc.getD k jcall0).b.2.length
             have hbm0 : blocksN (lc.getD k jcall0).b.2.length ≤ 2001 := by omega
             refine cw_skip (kThen_normal (cw_seq (cw_block (sR ?_))))
             refine rw_q rfl (ev_indexAddr_rk (i := (k : Int)) (RdK.ofRest hrc hm36) uT41 ti47 s45 s47 oM sL) <| rw_q (v := (Value.agg (segs [[(i64 ((lc.getD k jcall0).what_))], [(i64 ((lc.getD k jcall0).n_))], [(slv (lc.getD k jcall0).b)]]))) rfl (ev_load_rkW (i := (k : Int)) (dflt := jcall0) (cs := (segs [[(i64 ((lc.getD k jcall0).what_))], [(i64 ((lc.getD k jcall0).n_))], [(slv (lc.getD k jcall0).b)]])) (RdK.ofRest hrc hm36) sL uT47 rfl ti47 rfl rfl rfl) <| rw_c rfl (or_allocX hm36 ti47) ?_
             rintro _ w38 ⟨b10, rfl, _ew38, hm38⟩
             refine rw_n (or_storeW_segs [[(i64 ((lc.getD k jcall0).what_))], [(i64 ((lc.getD k jcall0).n_))], [(slv (lc.getD k jcall0).b)]] ti47 rfl rfl (fl_cons (n := 1) (m := 2) (k := 3) rfl (fl_cons (n := 1) (m := 1) (k := 2) rfl (fl_cons (n := 1) (m := 0) (k := 1) rfl fl_nil rfl) rfl) rfl) (so_cons (one_cons (i64_one _) one_nil) (so_cons (one_cons (i64_one _) one_nil) (so_cons (one_cons rfl one_nil) so_nil))) hm38.h0 rfl rfl) ?_
             rintro _ w39 uq39
             have hm39 : Mem w39 (restOf w0) ([(b10, .cells (segs [[(i64 ((lc.getD k jcall0).what_))], [(i64 ((lc.getD k jcall0).n_))], [(slv (lc.getD k jcall0).b)]]) 47 (0, 0)), (bn, .cells #[(ptr bdq5 0), (i64 (fr : Int)), (i64 (hh : Int)), (u64 ge), vr1, (i64 (roomB LW : Int))] 100 (0, 0))] ++ (Hr1 ++ ([(bdq5, .cells #[vlq5, (Value.slice none 0 0)] 94 (0, 0))] ++ (Hl1 ++ ([]))))) := hm38.upd0 uq39
             refine rN (sR ?_)
             refine rM rfl s6 <| rw_c rfl (opR_call Try.func19 bd19 nm19 (args1 rfl) (c_jrecords bn bdq5 (fr : Int) (hh : Int) ge vr1 rs1 (roomB LW : Int) _ hm39.h1 (GrowL.rd gr1 (Mem.pick [_, _] Hr1 _ hm39) nN) sL (map_el hMr (P := fun b => b.length ≤ 35184372088832) (fun b hb => by have := hel b hb; omega)))) ?_
             rintro rq41 w40 ⟨ls2q41, Hsq41, hMq41, hLq41, grq41, k_w40⟩
             have hm40 : Mem w40 (restOf w0) (Hsq41 ++ ([(b10, .cells (segs [[(i64 ((lc.getD k jcall0).what_))], [(i64 ((lc.getD k jcall0).n_))], [(slv (lc.getD k jcall0).b)]]) 47 (0, 0)), (bn, .cells #[(ptr bdq5 0), (i64 (fr : Int)), (i64 (hh : Int)), (u64 ge), vr1, (i64 (roomB LW : Int))] 100 (0, 0))] ++ (Hr1 ++ ([(bdq5, .cells #[vlq5, (Value.slice none 0 0)] 94 (0, 0))] ++ (Hl1 ++ ([])))))) := Mem.new (H := [(b10, .cells (segs [[(i64 ((lc.getD k jcall0).what_))], [(i64 ((lc.getD k jcall0).n_))], [(slv (lc.getD k jcall0).b)]]) 47 (0, 0)), (bn, .cells #[(ptr bdq5 0), (i64 (fr : Int)), (i64 (hh : Int)), (u64 ge), vr1, (i64 (roomB LW : Int))] 100 (0, 0))] ++ (Hr1 ++ ([(bdq5, .cells #[vlq5, (Value.slice none 0 0)] 94 (0, 0))] ++ (Hl1 ++ ([]))))) (H' := Hsq41) hm39 k_w40
             have gw42 : GrowL (blks w0) 23 rq41 ls2q41 Hsq41 := GrowL.mono grq41
             have hMl : ls2q41.map (·.2) = LW := by rw [hMq41, hMr]
             have hll := congrArg List.length hMl; rw [List.length_map] at hll
             have hrlw : roomB (ls2q41.map (·.2)) = roomB LW := by rw [hMl]
             refine rM rfl s5 <| rw_c rfl (opR_call Try.func25 bd25 nm25 (args1 rfl) (c_blocks bdq5 vlq5 L1 (Value.slice none 0 0) _ ((Mem.pick3 Hsq41 [_, _] Hr1 [_] _ hm40)).h0 (gl1.rd (Mem.pick4 Hsq41 [_, _] Hr1 [_] Hl1 _ hm40)) (RdK.nil _ _) sL)) ?_
             rintro rq44 w43 ⟨Hsq44, grq44, k_w43⟩
             have hm43 : Mem w43 (restOf w0) (Hsq44 ++ (Hsq41 ++ ([(b10, .cells (segs [[(i64 ((lc.getD k jcall0).what_))], [(i64 ((lc.getD k jcall0).n_))], [(slv (lc.getD k jcall0).b)]]) 47 (0, 0)), (bn, .cells #[(ptr bdq5 0), (i64 (fr : Int)), (i64 (hh : Int)), (u64 ge), vr1, (i64 (roomB LW : Int))] 100 (0, 0))] ++ (Hr1 ++ ([(bdq5, .cells #[vlq5, (Value.slice none 0 0)] 94 (0, 0))] ++ (Hl1 ++ ([]))))))) := Mem.new (H := Hsq41 ++ ([(b10, .cells (segs [[(i64 ((lc.getD k jcall0).what_))], [(i64 ((lc.getD k jcall0).n_))], [(slv (lc.getD k jcall0).b)]]) 47 (0, 0)), (bn, .cells #[(ptr bdq5 0), (i64 (fr : Int)), (i64 (hh : Int)), (u64 ge), vr1, (i64 (roomB LW : Int))] 100 (0, 0))] ++ (Hr1 ++ ([(bdq5, .cells #[vlq5, (Value.slice none 0 0)] 94 (0, 0))] ++ (Hl1 ++ ([])))))) (H' := Hsq44) hm40 k_w43
             refine rA rfl (v := rq41) rfl <| rA rfl (v := rq44) rfl ?_
             refine rN (sR ?_)
             refine rM rfl s8 <| rM rfl (v := rq41) rfl <| rw_c rfl (opR_call Try.func20 bd20 nm20 (args1 rfl) (c_rroom rq41 ls2q41 _ (GrowL.rd gw42 (Mem.pick Hsq44 Hsq41 _ hm43) (fun b o e => (hm43).rest b o e)) sL (map_el hMl hel))) ?_
             rintro _ w45 ⟨rfl, _ew45⟩
             have hm45 := hm43.ext _ew45
             refine rw_q rfl (ev_i64_sub rfl rfl oM oM) <| rw_q rfl (ev_assign (v := (i64 ((hh : Int) - (roomB (ls2q41.map (·.2)) : Int)))) rfl) ?_
             refine rN (cw_seq ?_)
             refine CW.abs (fun g => g 0 = vB ∧ g 1 = vc ∧ g 5 = (ptr bdq5 0) ∧ g 6 = (ptr bn 0) ∧ g 7 = (bl true) ∧ g 8 = (i64 (hh : Int)) ∧ g 10 = (ptr b10 0) ∧ g 11 = rq41 ∧ g 12 = rq44 ∧ g 13 = (i64 ((hh : Int) - (roomB LW : Int))) ∧ g 21 = (bl false) ∧ g 29 = (bl gq20) ∧ g 40 = (bl false) ∧ g 45 = vc ∧ g 46 = (i64 (lc.length : Int)) ∧ g 47 = (i64 (k : Int)) ∧ g 48 = (bl (decide ((k : Int) < (lc.length : Int)))) ∧ True) ⟨s0, s1, s5, s6, s7, s8, rfl, rfl, rfl, (Eq.trans rfl (show i64 ((hh : Int) - (roomB (ls2q41.map (·.2)) : Int)) = i64 ((hh : Int) - (roomB LW : Int)) from congrArg i64 (by rw [hMl]))), s21, s29, s40, s45, s46, s47, rfl, trivial⟩ ?_
             rintro fr47 ⟨s0, s1, s5, s6, s7, s8, s10, s11, s12, s13, s21, s29, s40, s45, s46, s47, s48, _⟩
             refine cw_region <| rw_q rfl (ev_fa (r := 2) uT47 rfl (by first | rfl | omega) ti23 rfl s10) <| rw_q (v := (slv (lc.getD k jcall0).b)) rfl (ev_load_segv (v := (slv (lc.getD k jcall0).b)) [[(i64 ((lc.getD k jcall0).what_))], [(i64 ((lc.getD k jcall0).n_))]] [] uT23 rfl rfl ((Mem.pick2 Hsq44 Hsq41 [_] _ hm45)).h0 (fl_cons (n := 1) (m := 1) (k := 2) rfl (fl_cons (n := 1) (m := 0) (k := 1) rfl fl_nil rfl) rfl)) <| rw_c rfl (or_buildSlice_ones [(slv (lc.getD k jcall0).b)] (List.all_eq_true.1 (one_cons rfl one_nil)) hm45 uT22 ti23 rfl rfl rfl) ?_
             rintro _ w48 ⟨b61, rfl, _ew48, hm48⟩
             have hm48 : Mem w48 (restOf w0) ([(b61, .cells #[(slv (lc.getD k jcall0).b)] 23 (0, 0))] ++ (Hsq44 ++ (Hsq41 ++ ([(b10, .cells (segs [[(i64 ((lc.getD k jcall0).what_))], [(i64 ((lc.getD k jcall0).n_))], [(slv (lc.getD k jcall0).b)]]) 47 (0, 0)), (bn, .cells #[(ptr bdq5 0), (i64 (fr : Int)), (i64 (hh : Int)), (u64 ge), vr1, (i64 (roomB LW : Int))] 100 (0, 0))] ++ (Hr1 ++ ([(bdq5, .cells #[vlq5, (Value.slice none 0 0)] 94 (0, 0))] ++ (Hl1 ++ ([])))))))) := hm48
             obtain ⟨HL48, gL48, hmL48⟩ : ∃ q, GrowL (blks w0) 23 (slc b61 0 1 1) [toSl (slv (lc.getD k jcall0).b) ((lc.getD k jcall0).b.2)] q ∧ Mem w48 (restOf w0) (q ++ (Hsq44 ++ (Hsq41 ++ ([(b10, .cells (segs [[(i64 ((lc.getD k jcall0).what_))], [(i64 ((lc.getD k jcall0).n_))], [(slv (lc.getD k jcall0).b)]]) 47 (0, 0)), (bn, .cells #[(ptr bdq5 0), (i64 (fr : Int)), (i64 (hh : Int)), (u64 ge), vr1, (i64 (roomB LW : Int))] 100 (0, 0))] ++ (Hr1 ++ ([(bdq5, .cells #[vlq5, (Value.slice none 0 0)] 94 (0, 0))] ++ (Hl1 ++ ([])))))))) := ⟨_, GrowL.of1 (Rd.toSl ((lc.getD k jcall0).b.2) (rdQ JCallT.b hqc (k := k) sD)) (el_rest (rdQ JCallT.b hqc (k := k) sD)), (by
               have hT := hm48
               try simp only [List.append_assoc, List.cons_append, List.nil_append, List.append_nil] at hT ⊢
               exact hT)⟩
             refine rw_c rfl (opR_call Try.func20 bd20 nm20 (args1 rfl) (c_rroom (slc b61 0 1 1) ([toSl (slv (lc.getD k jcall0).b) ((lc.getD k jcall0).b.2)]) _ (GrowL.rd gL48 hmL48 (fun b o e => (hmL48).rest b o e)) sL (map_el1 oM))) ?_
             rintro _ w49 ⟨rfl, _ew49⟩
             have hm49 := hmL48.ext _ew49
             refine rA rfl rfl ?_
             refine rN (cw_seq (cw_seq ?_))
             have hm51 := Mem.drop HL48 _ hm49
             refine CW.abs (fun g => g 0 = vB ∧ g 1 = vc ∧ g 5 = (ptr bdq5 0) ∧ g 6 = (ptr bn 0) ∧ g 7 = (bl true) ∧ g 8 = (i64 (hh : Int)) ∧ g 10 = (ptr b10 0) ∧ g 11 = rq41 ∧ g 12 = rq44 ∧ g 13 = (i64 ((hh : Int) - (roomB LW : Int))) ∧ g 14 = (i64 (blocksN (lc.getD k jcall0).b.2.length : Int)) ∧ g 21 = (bl false) ∧ g 29 = (bl gq20) ∧ g 40 = (bl false) ∧ g 45 = vc ∧ g 46 = (i64 (lc.length : Int)) ∧ g 47 = (i64 (k : Int)) ∧ g 48 = (bl (decide ((k : Int) < (lc.length : Int)))) ∧ True) ⟨s0, s1, s5, s6, s7, s8, s10, s11, s12, s13, (Eq.trans rfl (congrArg (fun n : Nat => i64 (n : Int)) (room_1 _))), s21, s29, s40, s45, s46, s47, s48, trivial⟩ ?_
             rintro fr52 ⟨s0, s1, s5, s6, s7, s8, s10, s11, s12, s13, s14, s21, s29, s40, s45, s46, s47, s48, _⟩
             refine cw_region <| rw_q rfl (ev_fa (r := 0) uT47 rfl (by first | rfl | omega) ti3 rfl s10) <| rw_q (v := (i64 ((lc.getD k jcall0).what_))) rfl (ev_load_segv (v := (i64 ((lc.getD k jcall0).what_))) [] [[(i64 ((lc.getD k jcall0).n_))], [(slv (lc.getD k jcall0).b)]] uT3 rfl rfl ((Mem.pick2 Hsq44 Hsq41 [_] _ hm51)).h0 fl_nil) ?_
             refine rN (cw_block (sR ?_))
             refine rw_q rfl (ev_i64_eql (b := 0) rfl rfl) <| rw_q rfl (ev_assign (v := (bl (((lc.getD k jcall0).what_) == 0))) rfl) <| rN ?_
             refine cw_meetB (J := fun g wv => ∃ (bn2 fr2 : Nat) (ge2 : BitVec 64) (vr2 : Value) (rs2 : List SlT) (Hr2 : List (Nat × Obj)) (L2 : List (List (BitVec 8))) (Hl2 : List (Nat × Obj)) (LW2 : List (List (BitVec 8))), (JI L2 fr2 hh ge2 LW2) ∧ (rs2.map (·.2) = LW2) ∧ (∀ b ∈ LW2, b.length ≤ 42000) ∧ (GrowL mN 23 vr2 rs2 Hr2) ∧ (GrowK (encA u8) 64 83 vlq5 L2 Hl2) ∧ g 0 = vB ∧ g 1 = vc ∧ g 5 = (ptr bdq5 0) ∧ g 6 = (ptr bn2 0) ∧ g 7 = (bl true) ∧ g 8 = (i64 (hh : Int)) ∧ g 10 = (ptr b10 0) ∧ g 11 = rq41 ∧ g 12 = rq44 ∧ g 13 = (i64 ((hh : Int) - (roomB LW : Int))) ∧ g 14 = (i64 (blocksN (lc.getD k jcall0).b.2.length : Int)) ∧ g 21 = (bl false) ∧ g 29 = (bl gq20) ∧ g 40 = (bl false) ∧ g 45 = vc ∧ g 46 = (i64 (lc.length : Int)) ∧ g 47 = (i64 (k : Int)) ∧ g 48 = (bl (decide ((k : Int) < (lc.length : Int)))) ∧ g 64 = (i64 ((lc.getD k jcall0).what_)) ∧ g 87 = (bl (((lc.getD k jcall0).what_) == 0)) ∧ Mem wv (restOf w0) ([(bn2, .cells #[(ptr bdq5 0), (i64 (fr2 : Int)), (i64 (hh : Int)), (u64 ge2), vr2, (i64 (roomB LW2 : Int))] 100 (0, 0))] ++ (Hr2 ++ ([(bdq5, .cells #[vlq5, (Value.slice none 0 0)] 94 (0, 0))] ++ (Hl2 ++ ([])))))) ?_ ?_
             · skip
               refine cw_cond rfl (fun hc53 => ?_) (fun hc53 => ?_)
               · -- true
                 have hc53p := eq_of_beq hc53
                 refine cw_seq ?_
                 rcases Bool.eq_false_or_eq_true (fitsB (hh : Int) (roomB LW : Int) (lc.getD k jcall0).b.2.length) with hb54 | hb54
                 · -- true
                   refine cw_region <| rM rfl s6 <| rw_c rfl (or_buildSlice_cl u8 [] u8_one hm51 uT23 ti5 rfl (by simp [pairs]) rfl) ?_
                   rintro _ w55 ⟨b90, rfl, _ew55, hm55⟩
                   refine rw_q rfl (ev_fa (r := 2) uT47 rfl (by first | rfl | omega) ti23 rfl s10) <| rw_q (v := (slv (lc.getD k jcall0).b)) rfl (ev_load_segv (v := (slv (lc.getD k jcall0).b)) [[(i64 ((lc.getD k jcall0).what_))], [(i64 ((lc.getD k jcall0).n_))]] [] uT23 rfl rfl ((Mem.pick3 [_] Hsq44 Hsq41 [_] _ hm55)).h0 (fl_cons (n := 1) (m := 1) (k := 2) rfl (fl_cons (n := 1) (m := 0) (k := 1) rfl fl_nil rfl) rfl)) <| rw_c rfl (or_append (f := u8) (Hs := [(b90, .cells (cl u8 ([])) 5 (0, 0))]) (H := Hsq44 ++ (Hsq41 ++ ([(b10, .cells (segs [[(i64 ((lc.getD k jcall0).what_))], [(i64 ((lc.getD k jcall0).n_))], [(slv (lc.getD k jcall0).b)]]) 47 (0, 0)), (bn, .cells #[(ptr bdq5 0), (i64 (fr : Int)), (i64 (hh : Int)), (u64 ge), vr1, (i64 (roomB LW : Int))] 100 (0, 0))] ++ (Hr1 ++ ([(bdq5, .cells #[vlq5, (Value.slice none 0 0)] 94 (0, 0))] ++ (Hl1 ++ ([]))))))) hm55 (Grow.of u8 5 b90 ([])) rfl rfl (Rd.ofRest (rdQ JCallT.b hqc (k := k) sD) hm55) uT23 uT23 ti5 rfl u8_one sL sL) ?_
                   rintro sv56 w56 ⟨Hs56, hm56, g56⟩
                   replace g56 : Grow u8 5 sv56 ((lc.getD k jcall0).b.2) Hs56 := g56
                   have hF58 : Mem w56 (restOf w0) (([(bn, .cells #[(ptr bdq5 0), (i64 (fr : Int)), (i64 (hh : Int)), (u64 ge), vr1, (i64 (roomB LW : Int))] 100 (0, 0))] ++ (Hr1 ++ ([(bdq5, .cells #[vlq5, (Value.slice none 0 0)] 94 (0, 0))] ++ (Hl1 ++ ([] ++ ([])))))) ++ (Hs56 ++ (Hsq44 ++ (Hsq41 ++ ([(b10, .cells (segs [[(i64 ((lc.getD k jcall0).what_))], [(i64 ((lc.getD k jcall0).n_))], [(slv (lc.getD k jcall0).b)]]) 47 (0, 0))]))))) := by
                     have hT := (Mem.pick7 Hr1 [_] Hl1 Hs56 Hsq44 Hsq41 [_] [_] _ (Mem.pick6 [_] Hl1 Hs56 Hsq44 Hsq41 [_, _] Hr1 _ (Mem.pick6 Hl1 Hs56 Hsq44 Hsq41 [_, _] Hr1 [_] _ (Mem.pick6 Hs56 Hsq44 Hsq41 [_, _] Hr1 [_] Hl1 _ hm56))))
                     try simp only [List.append_assoc, List.cons_append, List.nil_append, List.append_nil] at hT ⊢
                     exact hT
                   refine rw_c rfl (opR_call Try.func15 bd15 nm15 (args2 rfl rfl) (c_jappend1 bn (fr : Int) (hh : Int) ge vr1 rs1 Hr1 (roomB LW : Int) bdq5 vlq5 L1 Hl1 (Value.slice none 0 0) ([]) ([]) sv56 ((lc.getD k jcall0).b.2) _ _ (Mem.give hF58) gr1 gl1 (GrowK.none encW 65 104) (g56.rdAdd hF58 (fun p hp => (List.mem_append_left _ hp))) sL sL sL sL sL sL sL okP_nil hb54)) ?_
                   rintro _ w57 ⟨vr2q59, rs2q59, Hr2q59, Hl2q59, rfl, hMq59, hLq59, gr2q59, gl2q59, k_w57⟩
                   have hm57 : Mem w57 (restOf w0) ([(bn, .cells #[(ptr bdq5 0), (i64 (fr : Int)), (i64 (hh : Int)), (u64 ge), vr2q59, (i64 ((roomB LW : Int) + (blocksN ((lc.getD k jcall0).b.2).length : Int)))] 100 (0, 0))] ++ (Hr2q59 ++ ([(bdq5, .cells #[vlq5, (Value.slice none 0 0)] 94 (0, 0))] ++ (Hl2q59 ++ (Hs56 ++ (Hsq44 ++ (Hsq41 ++ ([(b10, .cells (segs [[(i64 ((lc.getD k jcall0).what_))], [(i64 ((lc.getD k jcall0).n_))], [(slv (lc.getD k jcall0).b)]]) 47 (0, 0))])))))))) := (by
                     have hT := Mem.back hF58 k_w57
                     try simp only [List.append_assoc, List.cons_append, List.nil_append, List.append_nil] at hT ⊢
                     exact hT)
                   have hfy := fits_yes hb54
                   have hJ3 := append_JI (pI := (fr : Int) + (roomB LW : Int)) (m := (rs1.length : Int)) hJ (b := (lc.getD k jcall0).b.2) oM (by push_cast; rfl) oM
                   obtain ⟨L3, hL3⟩ : ∃ q : List (List (BitVec 8)), q = (crashB L1 (writeK L1 ([]) ((fr : Int) + (roomB LW : Int)) ge (BitVec.ofInt 64 (rs1.length : Int)) ((lc.getD k jcall0).b.2) (blocksN ((lc.getD k jcall0).b.2).length)) [1#8]) := ⟨_, rfl⟩
                   have gg60 : GrowK (encA u8) 64 83 vlq5 L3 Hl2q59 := GrowK.cast gl2q59 (hL3.symm)
                   rw [← hL3] at hJ3
                   have hMr3 : rs2q59.map (·.2) = LW ++ [(lc.getD k jcall0).b.2] := by rw [hMq59, hMr]
                   have hel3 := el_app hel (show (lc.getD k jcall0).b.2.length ≤ 42000 by omega)
                   have hm61 : Mem w57 (restOf w0) ([(bn, .cells #[(ptr bdq5 0), (i64 (fr : Int)), (i64 (hh : Int)), (u64 ge), vr2q59, (i64 (roomB (LW ++ [(lc.getD k jcall0).b.2]) : Int))] 100 (0, 0))] ++ (Hr2q59 ++ ([(bdq5, .cells #[vlq5, (Value.slice none 0 0)] 94 (0, 0))] ++ (Hl2q59 ++ (Hs56 ++ (Hsq44 ++ (Hsq41 ++ ([(b10, .cells (segs [[(i64 ((lc.getD k jcall0).what_))], [(i64 ((lc.getD k jcall0).n_))], [(slv (lc.getD k jcall0).b)]]) 47 (0, 0))])))))))) := by rw [show (roomB (LW ++ [(lc.getD k jcall0).b.2]) : Int) = (roomB LW : Int) + (blocksN (lc.getD k jcall0).b.2.length : Int) by rw [room_snoc]; push_cast; rfl]; exact hm57
                   have hlr3 := congrArg List.length hMr3; rw [List.length_map, List.length_append, List.length_singleton] at hlr3
                   refine rw_q rfl (ev_assign (v := (i64 0)) rfl) ?_
                   refine rN (sR ?_)
                   refine rM rfl s14 <| rM rfl s13 <| rw_q rfl (ev_i64_gtr rfl rfl) <| rN ?_
                   have hd62 : (decide (((hh : Int) - (roomB LW : Int)) < (blocksN (lc.getD k jcall0).b.2.length : Int))) = false := decide_eq_false (by have hf := fits_yes hb54; omega)
                   refine cw_cond_f rfl hd62 <| cw_seq <| cw_drawE (by kernel_rfl) ?_
                   refine re_or 4 8 rfl rfl ?_ ?_
                   · -- 4 ahead of 8
                     refine re_plan [(0, false), (1, false), (2, false), (3, false), (5, false), (6, false), (7, false), (4, true), (8, true)] 9 rfl (by kernel_rfl) <| dw_q rfl rfl (fun _ _hx => ev_move (v := (i64 0)) rfl) <| dw_q rfl rfl (fun _ _hx => ev_i64_neq (b := 0) rfl rfl) <| dw_q rfl rfl (fun _ _hx => ev_move (v := (bl (0 != 0))) rfl) ?_
                     have hd63 : (0 != 0) = false := told_ne rfl
                     refine dw_gqy (s := 116) rfl rfl rfl hd63 rfl (fun _ _hx => ev_move s6) <| dw_gqy (s := 116) rfl rfl rfl hd63 rfl (fun _ _hx => ev_move s11) <| dw_gqy (s := 116) rfl rfl rfl hd63 rfl (fun _ _hx => ev_fa (r := 2) uT47 rfl (by first | rfl | omega) ti23 rfl s10) <| dw_gqy (s := 116) rfl rfl rfl hd63 rfl (fun _ _hx => ev_load_segv (v := (slv (lc.getD k jcall0).b)) [[(i64 ((lc.getD k jcall0).what_))], [(i64 ((lc.getD k jcall0).n_))]] [] uT23 rfl rfl ((Mem.pick7 [_] Hr2q59 [_] Hl2q59 Hs56 Hsq44 Hsq41 [_] _ (hm61.ext _hx))).h0 (fl_cons (n := 1) (m := 1) (k := 2) rfl (fl_cons (n := 1) (m := 0) (k := 1) rfl fl_nil rfl) rfl)) ?_
                     refine dw_gcy (s := 116) rfl rfl rfl hd63 rfl (fun w64 _ew64 => ?_)
                     have hm64 := hm61.ext _ew64
                     refine OpR.mono (opR_call Try.func19 bd19 nm19 (args1 rfl) (c_jrecords bn bdq5 (fr : Int) (hh : Int) ge vr2q59 rs2q59 (roomB (LW ++ [(lc.getD k jcall0).b.2]) : Int) _ hm64.h0 (GrowL.rd gr2q59 (Mem.pick [_] Hr2q59 _ hm64) nN) sL (map_el hMr3 (P := fun b => b.length ≤ 35184372088832) (fun b hb => by have := hel3 b hb; omega)))) ?_
                     rintro rq66 w65 ⟨ls2q66, Hsq66, hMq66, hLq66, grq66, k_w65⟩
                     refine ⟨k_w65.toExt, ?_⟩
                     have hm65 : Mem w65 (restOf w0) (Hsq66 ++ ([(bn, .cells #[(ptr bdq5 0), (i64 (fr : Int)), (i64 (hh : Int)), (u64 ge), vr2q59, (i64 (roomB (LW ++ [(lc.getD k jcall0).b.2]) : Int))] 100 (0, 0))] ++ (Hr2q59 ++ ([(bdq5, .cells #[vlq5, (Value.slice none 0 0)] 94 (0, 0))] ++ (Hl2q59 ++ (Hs56 ++ (Hsq44 ++ (Hsq41 ++ ([(b10, .cells (segs [[(i64 ((lc.getD k jcall0).what_))], [(i64 ((lc.getD k jcall0).n_))], [(slv (lc.getD k jcall0).b)]]) 47 (0, 0))]))))))))) := Mem.new (H := [(bn, .cells #[(ptr bdq5 0), (i64 (fr : Int)), (i64 (hh : Int)), (u64 ge), vr2q59, (i64 (roomB (LW ++ [(lc.getD k jcall0).b.2]) : Int))] 100 (0, 0))] ++ (Hr2q59 ++ ([(bdq5, .cells #[vlq5, (Value.slice none 0 0)] 94 (0, 0))] ++ (Hl2q59 ++ (Hs56 ++ (Hsq44 ++ (Hsq41 ++ ([(b10, .cells (segs [[(i64 ((lc.getD k jcall0).what_))], [(i64 ((lc.getD k jcall0).n_))], [(slv (lc.getD k jcall0).b)]]) 47 (0, 0))])))))))) (H' := Hsq66) hm64 k_w65
                     refine dw_gcy (s := 116) rfl rfl rfl hd63 rfl (fun w67 _ew67 => ?_)
                     have hm67 := hm65.ext _ew67
                     refine OpR.mono (or_buildSlice_ones [(slv (lc.getD k jcall0).b)] (List.all_eq_true.1 (one_cons rfl one_nil)) hm67 uT22 ti23 rfl rfl rfl) ?_
                     rintro _ w68 ⟨b122, rfl, _ew68, hm68⟩
                     refine ⟨_ew68, ?_⟩
                     have hm68 : Mem w68 (restOf w0) ([(b122, .cells #[(slv (lc.getD k jcall0).b)] 23 (0, 0))] ++ (Hsq66 ++ ([(bn, .cells #[(ptr bdq5 0), (i64 (fr : Int)), (i64 (hh : Int)), (u64 ge), vr2q59, (i64 (roomB (LW ++ [(lc.getD k jcall0).b.2]) : Int))] 100 (0, 0))] ++ (Hr2q59 ++ ([(bdq5, .cells #[vlq5, (Value.slice none 0 0)] 94 (0, 0))] ++ (Hl2q59 ++ (Hs56 ++ (Hsq44 ++ (Hsq41 ++ ([(b10, .cells (segs [[(i64 ((lc.getD k jcall0).what_))], [(i64 ((lc.getD k jcall0).n_))], [(slv (lc.getD k jcall0).b)]]) 47 (0, 0))])))))))))) := hm68
                     refine dw_nil (fun w69 _ew69 => ?_)
                     have hm69 := hm68.ext _ew69
                     refine rw_gy (s := 116) rfl rfl hd63 rfl (or_appendL (Hs := Hsq41) (Hv := []) (H := [(b122, .cells #[(slv (lc.getD k jcall0).b)] 23 (0, 0))] ++ (Hsq66 ++ ([(bn, .cells #[(ptr bdq5 0), (i64 (fr : Int)), (i64 (hh : Int)), (u64 ge), vr2q59, (i64 (roomB (LW ++ [(lc.getD k jcall0).b.2]) : Int))] 100 (0, 0))] ++ (Hr2q59 ++ ([(bdq5, .cells #[vlq5, (Value.slice none 0 0)] 94 (0, 0))] ++ (Hl2q59 ++ (Hs56 ++ (Hsq44 ++ ([(b10, .cells (segs [[(i64 ((lc.getD k jcall0).what_))], [(i64 ((lc.getD k jcall0).n_))], [(slv (lc.getD k jcall0).b)]]) 47 (0, 0))]))))))))) (u0 := (slv (lc.getD k jcall0).b)) (l0 := (lc.getD k jcall0).b.2) (show Mem _ _ (Hsq41 ++ ([] ++ ([(b122, .cells #[(slv (lc.getD k jcall0).b)] 23 (0, 0))] ++ (Hsq66 ++ ([(bn, .cells #[(ptr bdq5 0), (i64 (fr : Int)), (i64 (hh : Int)), (u64 ge), vr2q59, (i64 (roomB (LW ++ [(lc.getD k jcall0).b.2]) : Int))] 100 (0, 0))] ++ (Hr2q59 ++ ([(bdq5, .cells #[vlq5, (Value.slice none 0 0)] 94 (0, 0))] ++ (Hl2q59 ++ (Hs56 ++ (Hsq44 ++ ([(b10, .cells (segs [[(i64 ((lc.getD k jcall0).what_))], [(i64 ((lc.getD k jcall0).n_))], [(slv (lc.getD k jcall0).b)]]) 47 (0, 0))]))))))))))) from (Mem.pick8 [_] Hsq66 [_] Hr2q59 [_] Hl2q59 Hs56 Hsq44 Hsq41 _ hm69)) gw42 rfl rfl (Rd.oneS (l := (lc.getD k jcall0).b.2) hm69.h0 (Rd.toSl ((lc.getD k jcall0).b.2) (rdQ JCallT.b hqc (k := k) sD))) (Rd.toSl ((lc.getD k jcall0).b.2) (rdQ JCallT.b hqc (k := k) sD)) (el_rest (rdQ JCallT.b hqc (k := k) sD)) uT22 uT22 ti23 rfl sL sL) ?_
                     rintro sv70 w70 ⟨ls70, Hs70, hM70, hL70, hm70, g70⟩
                     refine rw_gy (s := 116) rfl rfl hd63 rfl (opR_call Try.func18 bd18 nm18 (args2 rfl rfl) (c_samelist rq66 ls2q66 sv70 ls70 _ (GrowL.rd grq66 (Mem.pick2 Hs70 [_] Hsq66 _ hm70) nN) (GrowL.rd g70 hm70 (fun b o e => (hm70).rest b o e)) sL (map_el (hMq66.trans hMr3) (P := fun b => b.length ≤ 281474976710656) (fun b hb => by have := hel3 b hb; omega)))) ?_
                     rintro _ w71 ⟨rfl, _ew71⟩
                     have hm71 := hm70.ext _ew71
                     refine rw_gyq (s := 116) rfl rfl hd63 rfl (ev_not rfl) <| rw_q rfl (ev_pick_fk rfl hd63 rfl) <| rN ?_
                     have hm73 := Mem.drop Hs70 _ hm71
                     have hm74 := Mem.drop ([(b122, .cells #[(slv (lc.getD k jcall0).b)] 23 (0, 0))]) _ hm73
                     have hm75 := Mem.drop Hsq66 _ hm74
                     have hm76 := Mem.drop Hs56 _ (Mem.pick4 [_] Hr2q59 [_] Hl2q59 Hs56 _ hm75)
                     refine CW.abs (fun g => g 0 = vB ∧ g 1 = vc ∧ g 5 = (ptr bdq5 0) ∧ g 6 = (ptr bn 0) ∧ g 7 = (bl true) ∧ g 8 = (i64 (hh : Int)) ∧ g 10 = (ptr b10 0) ∧ g 11 = rq41 ∧ g 12 = rq44 ∧ g 13 = (i64 ((hh : Int) - (roomB LW : Int))) ∧ g 14 = (i64 (blocksN (lc.getD k jcall0).b.2.length : Int)) ∧ g 15 = (i64 0) ∧ g 21 = (bl false) ∧ g 29 = (bl gq20) ∧ g 40 = (bl false) ∧ g 45 = vc ∧ g 46 = (i64 (lc.length : Int)) ∧ g 47 = (i64 (k : Int)) ∧ g 48 = (bl (decide ((k : Int) < (lc.length : Int)))) ∧ g 64 = (i64 ((lc.getD k jcall0).what_)) ∧ g 87 = (bl (((lc.getD k jcall0).what_) == 0)) ∧ g 97 = (bl (decide (((hh : Int) - (roomB LW : Int)) < (blocksN (lc.getD k jcall0).b.2.length : Int)))) ∧ g 126 = (bl (!((ls2q66.map (·.2)) == (ls70.map (·.2))))) ∧ True) ⟨s0, s1, s5, s6, s7, s8, s10, s11, s12, s13, s14, rfl, s21, s29, s40, s45, s46, s47, s48, rfl, rfl, rfl, rfl, trivial⟩ ?_
                     rintro fr77 ⟨s0, s1, s5, s6, s7, s8, s10, s11, s12, s13, s14, s15, s21, s29, s40, s45, s46, s47, s48, s64, s87, s97, s126, _⟩
                     have hd78 : ((ls2q66.map (·.2)) == (ls70.map (·.2))) = true := told_true (by rw [hMq66, hMr3, hM70, hMl])
                     have hd79 : (!((ls2q66.map (·.2)) == (ls70.map (·.2)))) = false := congrArg Bool.not hd78
                     refine cw_cond_f s126 hd79 ?_
                     refine cw_skip (kThen_normal ?_)
                     have hm80 := Mem.drop Hsq44 _ (Mem.pick4 [_] Hr2q59 [_] Hl2q59 Hsq44 _ hm76)
                     have hm81 := Mem.drop ([(b10, .cells (segs [[(i64 ((lc.getD k jcall0).what_))], [(i64 ((lc.getD k jcall0).n_))], [(slv (lc.getD k jcall0).b)]]) 47 (0, 0))]) _ (Mem.pick4 [_] Hr2q59 [_] Hl2q59 [_] _ hm80)
                     exact ⟨bn, fr, ge, vr2q59, rs2q59, Hr2q59, L3, Hl2q59, (LW ++ [(lc.getD k jcall0).b.2]), hJ3, hMr3, hel3, gr2q59, gg60, s0, s1, s5, s6, s7, s8, s10, s11, s12, s13, s14, s21, s29, s40, s45, s46, s47, s48, s64, s87, (by
                       have hT := hm81
                       try simp only [List.append_assoc, List.cons_append, List.nil_append, List.append_nil] at hT ⊢
                       exact hT)⟩
                   · -- 8 ahead of 4
                     refine re_plan [(0, false), (1, false), (2, false), (3, false), (5, false), (6, false), (7, false), (8, true), (4, true)] 9 rfl (by kernel_rfl) <| dw_q rfl rfl (fun _ _hx => ev_move (v := (i64 0)) rfl) <| dw_q rfl rfl (fun _ _hx => ev_i64_neq (b := 0) rfl rfl) <| dw_q rfl rfl (fun _ _hx => ev_move (v := (bl (0 != 0))) rfl) ?_
                     have hd82 : (0 != 0) = false := told_ne rfl
                     refine dw_gqy (s := 116) rfl rfl rfl hd82 rfl (fun _ _hx => ev_move s6) <| dw_gqy (s := 116) rfl rfl rfl hd82 rfl (fun _ _hx => ev_move s11) <| dw_gqy (s := 116) rfl rfl rfl hd82 rfl (fun _ _hx => ev_fa (r := 2) uT47 rfl (by first | rfl | omega) ti23 rfl s10) <| dw_gqy (s := 116) rfl rfl rfl hd82 rfl (fun _ _hx => ev_load_segv (v := (slv (lc.getD k jcall0).b)) [[(i64 ((lc.getD k jcall0).what_))], [(i64 ((lc.getD k jcall0).n_))]] [] uT23 rfl rfl ((Mem.pick7 [_] Hr2q59 [_] Hl2q59 Hs56 Hsq44 Hsq41 [_] _ (hm61.ext _hx))).h0 (fl_cons (n := 1) (m := 1) (k := 2) rfl (fl_cons (n := 1) (m := 0) (k := 1) rfl fl_nil rfl) rfl)) ?_
                     refine dw_gcy (s := 116) rfl rfl rfl hd82 rfl (fun w83 _ew83 => ?_)
                     have hm83 := hm61.ext _ew83
                     refine OpR.mono (or_buildSlice_ones [(slv (lc.getD k jcall0).b)] (List.all_eq_true.1 (one_cons rfl one_nil)) hm83 uT22 ti23 rfl rfl rfl) ?_
                     rintro _ w84 ⟨b122_1, rfl, _ew84, hm84⟩
                     refine ⟨_ew84, ?_⟩
                     have hm84 : Mem w84 (restOf w0) ([(b122_1, .cells #[(slv (lc.getD k jcall0).b)] 23 (0, 0)), (bn, .cells #[(ptr bdq5 0), (i64 (fr : Int)), (i64 (hh : Int)), (u64 ge), vr2q59, (i64 (roomB (LW ++ [(lc.getD k jcall0).b.2]) : Int))] 100 (0, 0))] ++ (Hr2q59 ++ ([(bdq5, .cells #[vlq5, (Value.slice none 0 0)] 94 (0, 0))] ++ (Hl2q59 ++ (Hs56 ++ (Hsq44 ++ (Hsq41 ++ ([(b10, .cells (segs [[(i64 ((lc.getD k jcall0).what_))], [(i64 ((lc.getD k jcall0).n_))], [(slv (lc.getD k jcall0).b)]]) 47 (0, 0))])))))))) := hm84
                     refine dw_gcy (s := 116) rfl rfl rfl hd82 rfl (fun w85 _ew85 => ?_)
                     have hm85 := hm84.ext _ew85
                     refine OpR.mono (opR_call Try.func19 bd19 nm19 (args1 rfl) (c_jrecords bn bdq5 (fr : Int) (hh : Int) ge vr2q59 rs2q59 (roomB (LW ++ [(lc.getD k jcall0).b.2]) : Int) _ hm85.h1 (GrowL.rd gr2q59 (Mem.pick [_, _] Hr2q59 _ hm85) nN) sL (map_el hMr3 (P := fun b => b.length ≤ 35184372088832) (fun b hb => by have := hel3 b hb; omega)))) ?_
                     rintro rq87 w86 ⟨ls2q87, Hsq87, hMq87, hLq87, grq87, k_w86⟩
                     refine ⟨k_w86.toExt, ?_⟩
                     have hm86 : Mem w86 (restOf w0) (Hsq87 ++ ([(b122_1, .cells #[(slv (lc.getD k jcall0).b)] 23 (0, 0)), (bn, .cells #[(ptr bdq5 0), (i64 (fr : Int)), (i64 (hh : Int)), (u64 ge), vr2q59, (i64 (roomB (LW ++ [(lc.getD k jcall0).b.2]) : Int))] 100 (0, 0))] ++ (Hr2q59 ++ ([(bdq5, .cells #[vlq5, (Value.slice none 0 0)] 94 (0, 0))] ++ (Hl2q59 ++ (Hs56 ++ (Hsq44 ++ (Hsq41 ++ ([(b10, .cells (segs [[(i64 ((lc.getD k jcall0).what_))], [(i64 ((lc.getD k jcall0).n_))], [(slv (lc.getD k jcall0).b)]]) 47 (0, 0))]))))))))) := Mem.new (H := [(b122_1, .cells #[(slv (lc.getD k jcall0).b)] 23 (0, 0)), (bn, .cells #[(ptr bdq5 0), (i64 (fr : Int)), (i64 (hh : Int)), (u64 ge), vr2q59, (i64 (roomB (LW ++ [(lc.getD k jcall0).b.2]) : Int))] 100 (0, 0))] ++ (Hr2q59 ++ ([(bdq5, .cells #[vlq5, (Value.slice none 0 0)] 94 (0, 0))] ++ (Hl2q59 ++ (Hs56 ++ (Hsq44 ++ (Hsq41 ++ ([(b10, .cells (segs [[(i64 ((lc.getD k jcall0).what_))], [(i64 ((lc.getD k jcall0).n_))], [(slv (lc.getD k jcall0).b)]]) 47 (0, 0))])))))))) (H' := Hsq87) hm85 k_w86
                     refine dw_nil (fun w88 _ew88 => ?_)
                     have hm88 := hm86.ext _ew88
                     refine rw_gy (s := 116) rfl rfl hd82 rfl (or_appendL (Hs := Hsq41) (Hv := []) (H := Hsq87 ++ ([(b122_1, .cells #[(slv (lc.getD k jcall0).b)] 23 (0, 0)), (bn, .cells #[(ptr bdq5 0), (i64 (fr : Int)), (i64 (hh : Int)), (u64 ge), vr2q59, (i64 (roomB (LW ++ [(lc.getD k jcall0).b.2]) : Int))] 100 (0, 0))] ++ (Hr2q59 ++ ([(bdq5, .cells #[vlq5, (Value.slice none 0 0)] 94 (0, 0))] ++ (Hl2q59 ++ (Hs56 ++ (Hsq44 ++ ([(b10, .cells (segs [[(i64 ((lc.getD k jcall0).what_))], [(i64 ((lc.getD k jcall0).n_))], [(slv (lc.getD k jcall0).b)]]) 47 (0, 0))])))))))) (u0 := (slv (lc.getD k jcall0).b)) (l0 := (lc.getD k jcall0).b.2) (show Mem _ _ (Hsq41 ++ ([] ++ (Hsq87 ++ ([(b122_1, .cells #[(slv (lc.getD k jcall0).b)] 23 (0, 0)), (bn, .cells #[(ptr bdq5 0), (i64 (fr : Int)), (i64 (hh : Int)), (u64 ge), vr2q59, (i64 (roomB (LW ++ [(lc.getD k jcall0).b.2]) : Int))] 100 (0, 0))] ++ (Hr2q59 ++ ([(bdq5, .cells #[vlq5, (Value.slice none 0 0)] 94 (0, 0))] ++ (Hl2q59 ++ (Hs56 ++ (Hsq44 ++ ([(b10, .cells (segs [[(i64 ((lc.getD k jcall0).what_))], [(i64 ((lc.getD k jcall0).n_))], [(slv (lc.getD k jcall0).b)]]) 47 (0, 0))])))))))))) from (Mem.pick7 Hsq87 [_, _] Hr2q59 [_] Hl2q59 Hs56 Hsq44 Hsq41 _ hm88)) gw42 rfl rfl (Rd.oneS (l := (lc.getD k jcall0).b.2) ((Mem.pick Hsq87 [_] _ hm88)).h0 (Rd.toSl ((lc.getD k jcall0).b.2) (rdQ JCallT.b hqc (k := k) sD))) (Rd.toSl ((lc.getD k jcall0).b.2) (rdQ JCallT.b hqc (k := k) sD)) (el_rest (rdQ JCallT.b hqc (k := k) sD)) uT22 uT22 ti23 rfl sL sL) ?_
                     rintro sv89 w89 ⟨ls89, Hs89, hM89, hL89, hm89, g89⟩
                     refine rw_gy (s := 116) rfl rfl hd82 rfl (opR_call Try.func18 bd18 nm18 (args2 rfl rfl) (c_samelist rq87 ls2q87 sv89 ls89 _ (GrowL.rd grq87 (Mem.pick Hs89 Hsq87 _ hm89) nN) (GrowL.rd g89 hm89 (fun b o e => (hm89).rest b o e)) sL (map_el (hMq87.trans hMr3) (P := fun b => b.length ≤ 281474976710656) (fun b hb => by have := hel3 b hb; omega)))) ?_
                     rintro _ w90 ⟨rfl, _ew90⟩
                     have hm90 := hm89.ext _ew90
                     refine rw_gyq (s := 116) rfl rfl hd82 rfl (ev_not rfl) <| rw_q rfl (ev_pick_fk rfl hd82 rfl) <| rN ?_
                     have hm92 := Mem.drop Hs89 _ hm90
                     have hm93 := Mem.drop Hsq87 _ hm92
                     have hm94 := Mem.drop ([(b122_1, .cells #[(slv (lc.getD k jcall0).b)] 23 (0, 0))]) _ hm93
                     have hm95 := Mem.drop Hs56 _ (Mem.pick4 [_] Hr2q59 [_] Hl2q59 Hs56 _ hm94)
                     refine CW.abs (fun g => g 0 = vB ∧ g 1 = vc ∧ g 5 = (ptr bdq5 0) ∧ g 6 = (ptr bn 0) ∧ g 7 = (bl true) ∧ g 8 = (i64 (hh : Int)) ∧ g 10 = (ptr b10 0) ∧ g 11 = rq41 ∧ g 12 = rq44 ∧ g 13 = (i64 ((hh : Int) - (roomB LW : Int))) ∧ g 14 = (i64 (blocksN (lc.getD k jcall0).b.2.length : Int)) ∧ g 15 = (i64 0) ∧ g 21 = (bl false) ∧ g 29 = (bl gq20) ∧ g 40 = (bl false) ∧ g 45 = vc ∧ g 46 = (i64 (lc.length : Int)) ∧ g 47 = (i64 (k : Int)) ∧ g 48 = (bl (decide ((k : Int) < (lc.length : Int)))) ∧ g 64 = (i64 ((lc.getD k jcall0).what_)) ∧ g 87 = (bl (((lc.getD k jcall0).what_) == 0)) ∧ g 97 = (bl (decide (((hh : Int) - (roomB LW : Int)) < (blocksN (lc.getD k jcall0).b.2.length : Int)))) ∧ g 126 = (bl (!((ls2q87.map (·.2)) == (ls89.map (·.2))))) ∧ True) ⟨s0, s1, s5, s6, s7, s8, s10, s11, s12, s13, s14, rfl, s21, s29, s40, s45, s46, s47, s48, rfl, rfl, rfl, rfl, trivial⟩ ?_
                     rintro fr96 ⟨s0, s1, s5, s6, s7, s8, s10, s11, s12, s13, s14, s15, s21, s29, s40, s45, s46, s47, s48, s64, s87, s97, s126, _⟩
                     have hd97 : ((ls2q87.map (·.2)) == (ls89.map (·.2))) = true := told_true (by rw [hMq87, hMr3, hM89, hMl])
                     have hd98 : (!((ls2q87.map (·.2)) == (ls89.map (·.2)))) = false := congrArg Bool.not hd97
                     refine cw_cond_f s126 hd98 ?_
                     refine cw_skip (kThen_normal ?_)
                     have hm99 := Mem.drop Hsq44 _ (Mem.pick4 [_] Hr2q59 [_] Hl2q59 Hsq44 _ hm95)
                     have hm100 := Mem.drop ([(b10, .cells (segs [[(i64 ((lc.getD k jcall0).what_))], [(i64 ((lc.getD k jcall0).n_))], [(slv (lc.getD k jcall0).b)]]) 47 (0, 0))]) _ (Mem.pick4 [_] Hr2q59 [_] Hl2q59 [_] _ hm99)
                     exact ⟨bn, fr, ge, vr2q59, rs2q59, Hr2q59, L3, Hl2q59, (LW ++ [(lc.getD k jcall0).b.2]), hJ3, hMr3, hel3, gr2q59, gg60, s0, s1, s5, s6, s7, s8, s10, s11, s12, s13, s14, s21, s29, s40, s45, s46, s47, s48, s64, s87, (by
                       have hT := hm100
                       try simp only [List.append_assoc, List.cons_append, List.nil_append, List.append_nil] at hT ⊢
                       exact hT)⟩
                 · -- false
                   refine cw_region <| rM rfl s6 <| rw_c rfl (or_buildSlice_cl u8 [] u8_one hm51 uT23 ti5 rfl (by simp [pairs]) rfl) ?_
                   rintro _ w101 ⟨b90_1, rfl, _ew101, hm101⟩
                   refine rw_q rfl (ev_fa (r := 2) uT47 rfl (by first | rfl | omega) ti23 rfl s10) <| rw_q (v := (slv (lc.getD k jcall0).b)) rfl (ev_load_segv (v := (slv (lc.getD k jcall0).b)) [[(i64 ((lc.getD k jcall0).what_))], [(i64 ((lc.getD k jcall0).n_))]] [] uT23 rfl rfl ((Mem.pick3 [_] Hsq44 Hsq41 [_] _ hm101)).h0 (fl_cons (n := 1) (m := 1) (k := 2) rfl (fl_cons (n := 1) (m := 0) (k := 1) rfl fl_nil rfl) rfl)) <| rw_c rfl (or_append (f := u8) (Hs := [(b90_1, .cells (cl u8 ([])) 5 (0, 0))]) (H := Hsq44 ++ (Hsq41 ++ ([(b10, .cells (segs [[(i64 ((lc.getD k jcall0).what_))], [(i64 ((lc.getD k jcall0).n_))], [(slv (lc.getD k jcall0).b)]]) 47 (0, 0)), (bn, .cells #[(ptr bdq5 0), (i64 (fr : Int)), (i64 (hh : Int)), (u64 ge), vr1, (i64 (roomB LW : Int))] 100 (0, 0))] ++ (Hr1 ++ ([(bdq5, .cells #[vlq5, (Value.slice none 0 0)] 94 (0, 0))] ++ (Hl1 ++ ([]))))))) hm101 (Grow.of u8 5 b90_1 ([])) rfl rfl (Rd.ofRest (rdQ JCallT.b hqc (k := k) sD) hm101) uT23 uT23 ti5 rfl u8_one sL sL) ?_
                   rintro sv102 w102 ⟨Hs102, hm102, g102⟩
                   replace g102 : Grow u8 5 sv102 ((lc.getD k jcall0).b.2) Hs102 := g102
                   refine rw_c rfl (opR_call Try.func15 bd15 nm15 (args2 rfl rfl) (c_jappend0 bn bdq5 (fr : Int) (hh : Int) ge vr1 (roomB LW : Int) sv102 ((lc.getD k jcall0).b.2) _ ((Mem.pick4 Hs102 Hsq44 Hsq41 [_] [_] _ hm102)).h0 (g102.rd hm102) sL sL sL hb54)) ?_
                   rintro _ w103 ⟨rfl, _ew103⟩
                   have hm103 := hm102.ext _ew103
                   refine rw_q rfl (ev_assign (v := (i64 6)) rfl) ?_
                   refine rN (sR ?_)
                   refine rM rfl s14 <| rM rfl s13 <| rw_q rfl (ev_i64_gtr rfl rfl) <| rN ?_
                   have hd105 : (decide (((hh : Int) - (roomB LW : Int)) < (blocksN (lc.getD k jcall0).b.2.length : Int))) = true := decide_eq_true (by have hf := fits_no oM hb54; omega)
                   refine cw_cond_t rfl hd105 <| sR <| rw_q rfl (ev_move (v := (i64 6)) rfl) <| rw_q rfl (ev_i64_neq (b := 6) rfl rfl) <| rw_q rfl (ev_move (v := (bl (6 != 6))) rfl) ?_
                   have hd106 : (6 != 6) = false := told_ne rfl
                   refine rw_gyq (s := 100) rfl rfl hd106 rfl (ev_move s12) <| rw_gyq (s := 100) rfl rfl hd106 rfl (ev_move s5) <| rw_gy (s := 100) rfl rfl hd106 rfl (opR_call Try.func25 bd25 nm25 (args1 rfl) (c_blocks bdq5 vlq5 L1 (Value.slice none 0 0) _ ((Mem.pick5 Hs102 Hsq44 Hsq41 [_, _] Hr1 [_] _ hm103)).h0 (gl1.rd (Mem.pick6 Hs102 Hsq44 Hsq41 [_, _] Hr1 [_] Hl1 _ hm103)) (RdK.nil _ _) sL)) ?_
                   rintro rq108 w107 ⟨Hsq108, grq108, k_w107⟩
                   have hm107 : Mem w107 (restOf w0) (Hsq108 ++ (Hs102 ++ (Hsq44 ++ (Hsq41 ++ ([(b10, .cells (segs [[(i64 ((lc.getD k jcall0).what_))], [(i64 ((lc.getD k jcall0).n_))], [(slv (lc.getD k jcall0).b)]]) 47 (0, 0)), (bn, .cells #[(ptr bdq5 0), (i64 (fr : Int)), (i64 (hh : Int)), (u64 ge), vr1, (i64 (roomB LW : Int))] 100 (0, 0))] ++ (Hr1 ++ ([(bdq5, .cells #[vlq5, (Value.slice none 0 0)] 94 (0, 0))] ++ (Hl1 ++ ([]))))))))) := Mem.new (H := Hs102 ++ (Hsq44 ++ (Hsq41 ++ ([(b10, .cells (segs [[(i64 ((lc.getD k jcall0).what_))], [(i64 ((lc.getD k jcall0).n_))], [(slv (lc.getD k jcall0).b)]]) 47 (0, 0)), (bn, .cells #[(ptr bdq5 0), (i64 (fr : Int)), (i64 (hh : Int)), (u64 ge), vr1, (i64 (roomB LW : Int))] 100 (0, 0))] ++ (Hr1 ++ ([(bdq5, .cells #[vlq5, (Value.slice none 0 0)] 94 (0, 0))] ++ (Hl1 ++ ([])))))))) (H' := Hsq108) hm103 k_w107
                   refine rw_gy (s := 100) rfl rfl hd106 rfl (opR_call Try.func26 bd26 nm26 (args2 rfl rfl) (c_same15 rq44 L1 rq108 L1 _ (grq44.rd (Mem.pick2 Hsq108 Hs102 Hsq44 _ hm107)) (grq108.rd hm107) sL sL)) ?_
                   rintro _ w109 ⟨rfl, _ew109⟩
                   have hm109 := hm107.ext _ew109
                   refine rw_gyq (s := 100) rfl rfl hd106 rfl (ev_not rfl) <| rw_q rfl (ev_pick_fk rfl hd106 rfl) <| rw_q rfl (ev_move (v := (bl (!(L1 == L1)))) rfl) ?_
                   have hd111 : (L1 == L1) = true := told_true rfl
                   have hd112 : (!(L1 == L1)) = false := congrArg Bool.not hd111
                   refine rw_gyq (s := 107) rfl rfl hd112 rfl (ev_move s6) <| rw_gy (s := 107) rfl rfl hd112 rfl (opR_call Try.func19 bd19 nm19 (args1 rfl) (c_jrecords bn bdq5 (fr : Int) (hh : Int) ge vr1 rs1 (roomB LW : Int) _ ((Mem.pick5 Hsq108 Hs102 Hsq44 Hsq41 [_] [_] _ hm109)).h0 (GrowL.rd gr1 (Mem.pick5 Hsq108 Hs102 Hsq44 Hsq41 [_, _] Hr1 _ hm109) nN) sL (map_el hMr (P := fun b => b.length ≤ 35184372088832) (fun b hb => by have := hel b hb; omega)))) ?_
                   rintro rq114 w113 ⟨ls2q114, Hsq114, hMq114, hLq114, grq114, k_w113⟩
                   have hm113 : Mem w113 (restOf w0) (Hsq114 ++ (Hsq108 ++ (Hs102 ++ (Hsq44 ++ (Hsq41 ++ ([(b10, .cells (segs [[(i64 ((lc.getD k jcall0).what_))], [(i64 ((lc.getD k jcall0).n_))], [(slv (lc.getD k jcall0).b)]]) 47 (0, 0)), (bn, .cells #[(ptr bdq5 0), (i64 (fr : Int)), (i64 (hh : Int)), (u64 ge), vr1, (i64 (roomB LW : Int))] 100 (0, 0))] ++ (Hr1 ++ ([(bdq5, .cells #[vlq5, (Value.slice none 0 0)] 94 (0, 0))] ++ (Hl1 ++ ([])))))))))) := Mem.new (H := Hsq108 ++ (Hs102 ++ (Hsq44 ++ (Hsq41 ++ ([(b10, .cells (segs [[(i64 ((lc.getD k jcall0).what_))], [(i64 ((lc.getD k jcall0).n_))], [(slv (lc.getD k jcall0).b)]]) 47 (0, 0)), (bn, .cells #[(ptr bdq5 0), (i64 (fr : Int)), (i64 (hh : Int)), (u64 ge), vr1, (i64 (roomB LW : Int))] 100 (0, 0))] ++ (Hr1 ++ ([(bdq5, .cells #[vlq5, (Value.slice none 0 0)] 94 (0, 0))] ++ (Hl1 ++ ([]))))))))) (H' := Hsq114) hm109 k_w113
                   have hMs : ls2q114.map (·.2) = LW := by rw [hMq114, hMr]
                   have hls := congrArg List.length hMs; rw [List.length_map] at hls
                   refine rw_gyq (s := 107) rfl rfl hd112 rfl (ev_move s11) <| rw_gy (s := 107) rfl rfl hd112 rfl (opR_call Try.func18 bd18 nm18 (args2 rfl rfl) (c_samelist rq114 ls2q114 rq41 ls2q41 _ (GrowL.rd grq114 hm113 nN) (GrowL.rd gw42 (Mem.pick4 Hsq114 Hsq108 Hs102 Hsq44 Hsq41 _ hm113) (fun b o e => (hm113).rest b o e)) sL (map_el hMs (P := fun b => b.length ≤ 281474976710656) (fun b hb => by have := hel b hb; omega)))) ?_
                   rintro _ w115 ⟨rfl, _ew115⟩
                   have hm115 := hm113.ext _ew115
                   refine rw_gyq (s := 107) rfl rfl hd112 rfl (ev_not rfl) <| rw_q rfl (ev_pick_fk rfl hd112 rfl) <| rN ?_
                   have hm117 := Mem.drop Hsq114 _ hm115
                   have hm118 := Mem.drop Hsq108 _ hm117
                   have hm119 := Mem.drop Hs102 _ hm118
                   refine CW.abs (fun g => g 0 = vB ∧ g 1 = vc ∧ g 5 = (ptr bdq5 0) ∧ g 6 = (ptr bn 0) ∧ g 7 = (bl true) ∧ g 8 = (i64 (hh : Int)) ∧ g 10 = (ptr b10 0) ∧ g 11 = rq41 ∧ g 12 = rq44 ∧ g 13 = (i64 ((hh : Int) - (roomB LW : Int))) ∧ g 14 = (i64 (blocksN (lc.getD k jcall0).b.2.length : Int)) ∧ g 15 = (i64 6) ∧ g 21 = (bl false) ∧ g 29 = (bl gq20) ∧ g 40 = (bl false) ∧ g 45 = vc ∧ g 46 = (i64 (lc.length : Int)) ∧ g 47 = (i64 (k : Int)) ∧ g 48 = (bl (decide ((k : Int) < (lc.length : Int)))) ∧ g 64 = (i64 ((lc.getD k jcall0).what_)) ∧ g 87 = (bl (((lc.getD k jcall0).what_) == 0)) ∧ g 97 = (bl (decide (((hh : Int) - (roomB LW : Int)) < (blocksN (lc.getD k jcall0).b.2.length : Int)))) ∧ g 113 = (bl (!((ls2q114.map (·.2)) == (ls2q41.map (·.2))))) ∧ True) ⟨s0, s1, s5, s6, s7, s8, s10, s11, s12, s13, s14, rfl, s21, s29, s40, s45, s46, s47, s48, rfl, rfl, rfl, rfl, trivial⟩ ?_
                   rintro fr120 ⟨s0, s1, s5, s6, s7, s8, s10, s11, s12, s13, s14, s15, s21, s29, s40, s45, s46, s47, s48, s64, s87, s97, s113, _⟩
                   have hd121 : ((ls2q114.map (·.2)) == (ls2q41.map (·.2))) = true := told_true (by rw [hMs, hMl])
                   have hd122 : (!((ls2q114.map (·.2)) == (ls2q41.map (·.2)))) = false := congrArg Bool.not hd121
                   refine cw_cond_f s113 hd122 ?_
                   refine cw_skip (kThen_normal ?_)
                   have hm123 := Mem.drop Hsq44 _ hm119
                   have hm124 := Mem.drop Hsq41 _ hm123
                   have hm125 := Mem.drop ([(b10, .cells (segs [[(i64 ((lc.getD k jcall0).what_))], [(i64 ((lc.getD k jcall0).n_))], [(slv (lc.getD k jcall0).b)]]) 47 (0, 0))]) _ hm124
                   exact ⟨bn, fr, ge, vr1, rs1, Hr1, L1, Hl1, LW, hJ, hMr, hel, gr1, gl1, s0, s1, s5, s6, s7, s8, s10, s11, s12, s13, s14, s21, s29, s40, s45, s46, s47, s48, s64, s87, (by
                     have hT := hm125
                     try simp only [List.append_assoc, List.cons_append, List.nil_append, List.append_nil] at hT ⊢
                     exact hT)⟩
               · -- false
                 have hc53p := ne_of_beq_false hc53
                 refine sR <| rw_q rfl (ev_i64_eql (b := 1) rfl rfl) <| rw_q rfl (ev_assign (v := (bl (((lc.getD k jcall0).what_) == 1))) rfl) <| rN ?_
                 refine cw_cond rfl (fun hc126 => ?_) (fun hc126 => ?_)
                 · -- true
                   have hc126p := eq_of_beq hc126
                   refine cw_seq ?_
                   rcases Bool.eq_false_or_eq_true (badR (hh : Int) (blocksN (lc.getD k jcall0).b.2.length) (newB L1 [])) with hb127 | hb127
                   · -- true
                     refine cw_region <| rM rfl s6 <| rw_c rfl (or_buildSlice_cl u8 [] u8_one hm51 uT23 ti5 rfl (by simp [pairs]) rfl) ?_
                     rintro _ w128 ⟨b130, rfl, _ew128, hm128⟩
                     refine rw_q rfl (ev_fa (r := 2) uT47 rfl (by first | rfl | omega) ti23 rfl s10) <| rw_q (v := (slv (lc.getD k jcall0).b)) rfl (ev_load_segv (v := (slv (lc.getD k jcall0).b)) [[(i64 ((lc.getD k jcall0).what_))], [(i64 ((lc.getD k jcall0).n_))]] [] uT23 rfl rfl ((Mem.pick3 [_] Hsq44 Hsq41 [_] _ hm128)).h0 (fl_cons (n := 1) (m := 1) (k := 2) rfl (fl_cons (n := 1) (m := 0) (k := 1) rfl fl_nil rfl) rfl)) <| rw_c rfl (or_append (f := u8) (Hs := [(b130, .cells (cl u8 ([])) 5 (0, 0))]) (H := Hsq44 ++ (Hsq41 ++ ([(b10, .cells (segs [[(i64 ((lc.getD k jcall0).what_))], [(i64 ((lc.getD k jcall0).n_))], [(slv (lc.getD k jcall0).b)]]) 47 (0, 0)), (bn, .cells #[(ptr bdq5 0), (i64 (fr : Int)), (i64 (hh : Int)), (u64 ge), vr1, (i64 (roomB LW : Int))] 100 (0, 0))] ++ (Hr1 ++ ([(bdq5, .cells #[vlq5, (Value.slice none 0 0)] 94 (0, 0))] ++ (Hl1 ++ ([]))))))) hm128 (Grow.of u8 5 b130 ([])) rfl rfl (Rd.ofRest (rdQ JCallT.b hqc (k := k) sD) hm128) uT23 uT23 ti5 rfl u8_one sL sL) ?_
                     rintro sv129 w129 ⟨Hs129, hm129, g129⟩
                     replace g129 : Grow u8 5 sv129 ((lc.getD k jcall0).b.2) Hs129 := g129
                     refine rw_c rfl (opR_call Try.func21 bd21 nm21 (args2 rfl rfl) (c_jrestart0 bn (fr : Int) (hh : Int) ge vr1 (roomB LW : Int) bdq5 vlq5 L1 (Value.slice none 0 0) ([]) sv129 ((lc.getD k jcall0).b.2) _ ((Mem.pick4 Hs129 Hsq44 Hsq41 [_] [_] _ hm129)).h0 ((Mem.pick5 Hs129 Hsq44 Hsq41 [_, _] Hr1 [_] _ hm129)).h0 (gl1.rd (Mem.pick6 Hs129 Hsq44 Hsq41 [_, _] Hr1 [_] Hl1 _ hm129)) (RdK.nil _ _) (g129.rd hm129) sL sL sL sL (badR_t hb127))) ?_
                     rintro _ w130 ⟨rfl, _ew130⟩
                     have hm130 := hm129.ext _ew130
                     refine rw_q rfl (ev_assign (v := (i64 6)) rfl) ?_
                     refine rN (sR ?_)
                     refine rM rfl s14 <| rM rfl s8 <| rw_q rfl (ev_i64_gtr rfl rfl) <| rw_q rfl (ev_move (v := (bl (decide ((hh : Int) < (blocksN (lc.getD k jcall0).b.2.length : Int))))) rfl) ?_
                     rcases Bool.eq_false_or_eq_true (decide ((hh : Int) < (blocksN (lc.getD k jcall0).b.2.length : Int))) with hb132 | hb132
                     · -- true
                       have hb132p := of_decide_eq_true hb132
                       refine rw_gn (s := 138) rfl rfl hb132 rfl <| rw_gn (s := 138) rfl rfl hb132 rfl <| rw_gn (s := 138) rfl rfl hb132 rfl <| rw_q rfl (ev_pick_tk rfl hb132 rfl) <| rN ?_
                       have hm133 := Mem.drop Hs129 _ hm130
                       refine CW.abs (fun g => g 0 = vB ∧ g 1 = vc ∧ g 5 = (ptr bdq5 0) ∧ g 6 = (ptr bn 0) ∧ g 7 = (bl true) ∧ g 8 = (i64 (hh : Int)) ∧ g 10 = (ptr b10 0) ∧ g 11 = rq41 ∧ g 12 = rq44 ∧ g 13 = (i64 ((hh : Int) - (roomB LW : Int))) ∧ g 14 = (i64 (blocksN (lc.getD k jcall0).b.2.length : Int)) ∧ g 16 = (i64 6) ∧ g 21 = (bl false) ∧ g 29 = (bl gq20) ∧ g 40 = (bl false) ∧ g 45 = vc ∧ g 46 = (i64 (lc.length : Int)) ∧ g 47 = (i64 (k : Int)) ∧ g 48 = (bl (decide ((k : Int) < (lc.length : Int)))) ∧ g 64 = (i64 ((lc.getD k jcall0).what_)) ∧ g 87 = (bl (((lc.getD k jcall0).what_) == 0)) ∧ g 127 = (bl (((lc.getD k jcall0).what_) == 1)) ∧ g 142 = (bl true) ∧ True) ⟨s0, s1, s5, s6, s7, s8, s10, s11, s12, s13, s14, rfl, s21, s29, s40, s45, s46, s47, s48, rfl, rfl, rfl, rfl, trivial⟩ ?_
                       rintro fr134 ⟨s0, s1, s5, s6, s7, s8, s10, s11, s12, s13, s14, s16, s21, s29, s40, s45, s46, s47, s48, s64, s87, s127, s142, _⟩
                       refine cw_cond_t s142 (by decide) <| sR <| rM rfl s16 <| rw_q rfl (ev_i64_neq (b := 6) rfl rfl) <| rw_q rfl (ev_move (v := (bl (6 != 6))) rfl) ?_
                       have hd135 : (6 != 6) = false := told_ne rfl
                       refine rw_gyq (s := 145) rfl rfl hd135 rfl (ev_move s12) <| rw_gyq (s := 145) rfl rfl hd135 rfl (ev_move s5) <| rw_gy (s := 145) rfl rfl hd135 rfl (opR_call Try.func25 bd25 nm25 (args1 rfl) (c_blocks bdq5 vlq5 L1 (Value.slice none 0 0) _ ((Mem.pick4 Hsq44 Hsq41 [_, _] Hr1 [_] _ hm133)).h0 (gl1.rd (Mem.pick5 Hsq44 Hsq41 [_, _] Hr1 [_] Hl1 _ hm133)) (RdK.nil _ _) sL)) ?_
                       rintro rq137 w136 ⟨Hsq137, grq137, k_w136⟩
                       have hm136 : Mem w136 (restOf w0) (Hsq137 ++ (Hsq44 ++ (Hsq41 ++ ([(b10, .cells (segs [[(i64 ((lc.getD k jcall0).what_))], [(i64 ((lc.getD k jcall0).n_))], [(slv (lc.getD k jcall0).b)]]) 47 (0, 0)), (bn, .cells #[(ptr bdq5 0), (i64 (fr : Int)), (i64 (hh : Int)), (u64 ge), vr1, (i64 (roomB LW : Int))] 100 (0, 0))] ++ (Hr1 ++ ([(bdq5, .cells #[vlq5, (Value.slice none 0 0)] 94 (0, 0))] ++ (Hl1 ++ ([])))))))) := Mem.new (H := Hsq44 ++ (Hsq41 ++ ([(b10, .cells (segs [[(i64 ((lc.getD k jcall0).what_))], [(i64 ((lc.getD k jcall0).n_))], [(slv (lc.getD k jcall0).b)]]) 47 (0, 0)), (bn, .cells #[(ptr bdq5 0), (i64 (fr : Int)), (i64 (hh : Int)), (u64 ge), vr1, (i64 (roomB LW : Int))] 100 (0, 0))] ++ (Hr1 ++ ([(bdq5, .cells #[vlq5, (Value.slice none 0 0)] 94 (0, 0))] ++ (Hl1 ++ ([]))))))) (H' := Hsq137) hm133 k_w136
                       refine rw_gy (s := 145) rfl rfl hd135 rfl (opR_call Try.func26 bd26 nm26 (args2 rfl rfl) (c_same15 rq44 L1 rq137 L1 _ (grq44.rd (Mem.pick Hsq137 Hsq44 _ hm136)) (grq137.rd hm136) sL sL)) ?_
                       rintro _ w138 ⟨rfl, _ew138⟩
                       have hm138 := hm136.ext _ew138
                       refine rw_gyq (s := 145) rfl rfl hd135 rfl (ev_not rfl) <| rw_q rfl (ev_pick_fk rfl hd135 rfl) <| rw_q rfl (ev_move (v := (bl (!(L1 == L1)))) rfl) ?_
                       have hd140 : (L1 == L1) = true := told_true rfl
                       have hd141 : (!(L1 == L1)) = false := congrArg Bool.not hd140
                       refine rw_gyq (s := 152) rfl rfl hd141 rfl (ev_move s6) <| rw_gy (s := 152) rfl rfl hd141 rfl (opR_call Try.func19 bd19 nm19 (args1 rfl) (c_jrecords bn bdq5 (fr : Int) (hh : Int) ge vr1 rs1 (roomB LW : Int) _ ((Mem.pick4 Hsq137 Hsq44 Hsq41 [_] [_] _ hm138)).h0 (GrowL.rd gr1 (Mem.pick4 Hsq137 Hsq44 Hsq41 [_, _] Hr1 _ hm138) nN) sL (map_el hMr (P := fun b => b.length ≤ 35184372088832) (fun b hb => by have := hel b hb; omega)))) ?_
                       rintro rq143 w142 ⟨ls2q143, Hsq143, hMq143, hLq143, grq143, k_w142⟩
                       have hm142 : Mem w142 (restOf w0) (Hsq143 ++ (Hsq137 ++ (Hsq44 ++ (Hsq41 ++ ([(b10, .cells (segs [[(i64 ((lc.getD k jcall0).what_))], [(i64 ((lc.getD k jcall0).n_))], [(slv (lc.getD k jcall0).b)]]) 47 (0, 0)), (bn, .cells #[(ptr bdq5 0), (i64 (fr : Int)), (i64 (hh : Int)), (u64 ge), vr1, (i64 (roomB LW : Int))] 100 (0, 0))] ++ (Hr1 ++ ([(bdq5, .cells #[vlq5, (Value.slice none 0 0)] 94 (0, 0))] ++ (Hl1 ++ ([]))))))))) := Mem.new (H := Hsq137 ++ (Hsq44 ++ (Hsq41 ++ ([(b10, .cells (segs [[(i64 ((lc.getD k jcall0).what_))], [(i64 ((lc.getD k jcall0).n_))], [(slv (lc.getD k jcall0).b)]]) 47 (0, 0)), (bn, .cells #[(ptr bdq5 0), (i64 (fr : Int)), (i64 (hh : Int)), (u64 ge), vr1, (i64 (roomB LW : Int))] 100 (0, 0))] ++ (Hr1 ++ ([(bdq5, .cells #[vlq5, (Value.slice none 0 0)] 94 (0, 0))] ++ (Hl1 ++ ([])))))))) (H' := Hsq143) hm138 k_w142
                       have hMs : ls2q143.map (·.2) = LW := by rw [hMq143, hMr]
                       have hls := congrArg List.length hMs; rw [List.length_map] at hls
                       refine rw_gyq (s := 152) rfl rfl hd141 rfl (ev_move s11) <| rw_gy (s := 152) rfl rfl hd141 rfl (opR_call Try.func18 bd18 nm18 (args2 rfl rfl) (c_samelist rq143 ls2q143 rq41 ls2q41 _ (GrowL.rd grq143 hm142 nN) (GrowL.rd gw42 (Mem.pick3 Hsq143 Hsq137 Hsq44 Hsq41 _ hm142) (fun b o e => (hm142).rest b o e)) sL (map_el hMs (P := fun b => b.length ≤ 281474976710656) (fun b hb => by have := hel b hb; omega)))) ?_
                       rintro _ w144 ⟨rfl, _ew144⟩
                       have hm144 := hm142.ext _ew144
                       refine rw_gyq (s := 152) rfl rfl hd141 rfl (ev_not rfl) <| rw_q rfl (ev_pick_fk rfl hd141 rfl) <| rN ?_
                       have hd146 : ((ls2q143.map (·.2)) == (ls2q41.map (·.2))) = true := told_true (by rw [hMs, hMl])
                       have hd147 : (!((ls2q143.map (·.2)) == (ls2q41.map (·.2)))) = false := congrArg Bool.not hd146
                       refine cw_cond_f rfl hd147 ?_
                       refine cw_skip (kThen_normal ?_)
                       have hm148 := Mem.drop Hsq143 _ hm144
                       have hm149 := Mem.drop Hsq137 _ hm148
                       have hm150 := Mem.drop Hsq44 _ hm149
                       have hm151 := Mem.drop Hsq41 _ hm150
                       have hm152 := Mem.drop ([(b10, .cells (segs [[(i64 ((lc.getD k jcall0).what_))], [(i64 ((lc.getD k jcall0).n_))], [(slv (lc.getD k jcall0).b)]]) 47 (0, 0))]) _ hm151
                       exact ⟨bn, fr, ge, vr1, rs1, Hr1, L1, Hl1, LW, hJ, hMr, hel, gr1, gl1, s0, s1, s5, s6, s7, s8, s10, s11, s12, s13, s14, s21, s29, s40, s45, s46, s47, s48, s64, s87, (by
                         have hT := hm152
                         try simp only [List.append_assoc, List.cons_append, List.nil_append, List.append_nil] at hT ⊢
                         exact hT)⟩
                     · -- false
                       have hb132p := of_decide_eq_false hb132
                       refine rw_gyq (s := 138) rfl rfl hb132 rfl (ev_move s12) <| rw_gy (s := 138) rfl rfl hb132 rfl (opR_call Try.func27 bd27 nm27 (args1 rfl) (c_rnewest rq44 L1 _ (grq44.rd (Mem.pick Hs129 Hsq44 _ hm130)) sL)) ?_
                       rintro _ w153 ⟨rfl, _ew153⟩
                       have hm153 := hm130.ext _ew153
                       refine rw_gyq (s := 138) rfl rfl hb132 rfl (ev_i64_geq (b := 4294967296) rfl rfl) <| rw_q rfl (ev_pick_fk rfl hb132 rfl) <| rN ?_
                       have hm155 := Mem.drop Hs129 _ hm153
                       refine CW.abs (fun g => g 0 = vB ∧ g 1 = vc ∧ g 5 = (ptr bdq5 0) ∧ g 6 = (ptr bn 0) ∧ g 7 = (bl true) ∧ g 8 = (i64 (hh : Int)) ∧ g 10 = (ptr b10 0) ∧ g 11 = rq41 ∧ g 12 = rq44 ∧ g 13 = (i64 ((hh : Int) - (roomB LW : Int))) ∧ g 14 = (i64 (blocksN (lc.getD k jcall0).b.2.length : Int)) ∧ g 16 = (i64 6) ∧ g 21 = (bl false) ∧ g 29 = (bl gq20) ∧ g 40 = (bl false) ∧ g 45 = vc ∧ g 46 = (i64 (lc.length : Int)) ∧ g 47 = (i64 (k : Int)) ∧ g 48 = (bl (decide ((k : Int) < (lc.length : Int)))) ∧ g 64 = (i64 ((lc.getD k jcall0).what_)) ∧ g 87 = (bl (((lc.getD k jcall0).what_) == 0)) ∧ g 127 = (bl (((lc.getD k jcall0).what_) == 1)) ∧ g 142 = (bl (decide (4294967296 ≤ ((topK L1 L1.length : Int) + 1)))) ∧ True) ⟨s0, s1, s5, s6, s7, s8, s10, s11, s12, s13, s14, rfl, s21, s29, s40, s45, s46, s47, s48, rfl, rfl, rfl, rfl, trivial⟩ ?_
                       rintro fr156 ⟨s0, s1, s5, s6, s7, s8, s10, s11, s12, s13, s14, s16, s21, s29, s40, s45, s46, s47, s48, s64, s87, s127, s142, _⟩
                       have hd157 : (decide (4294967296 ≤ ((topK L1 L1.length : Int) + 1))) = true := decide_eq_true (by have hf := new_zero ((badR_t hb127).resolve_left (of_decide_eq_false hb132)); omega)
                       refine cw_cond_t s142 hd157 <| sR <| rM rfl s16 <| rw_q rfl (ev_i64_neq (b := 6) rfl rfl) <| rw_q rfl (ev_move (v := (bl (6 != 6))) rfl) ?_
                       have hd158 : (6 != 6) = false := told_ne rfl
                       refine rw_gyq (s := 145) rfl rfl hd158 rfl (ev_move s12) <| rw_gyq (s := 145) rfl rfl hd158 rfl (ev_move s5) <| rw_gy (s := 145) rfl rfl hd158 rfl (opR_call Try.func25 bd25 nm25 (args1 rfl) (c_blocks bdq5 vlq5 L1 (Value.slice none 0 0) _ ((Mem.pick4 Hsq44 Hsq41 [_, _] Hr1 [_] _ hm155)).h0 (gl1.rd (Mem.pick5 Hsq44 Hsq41 [_, _] Hr1 [_] Hl1 _ hm155)) (RdK.nil _ _) sL)) ?_
                       rintro rq160 w159 ⟨Hsq160, grq160, k_w159⟩
                       have hm159 : Mem w159 (restOf w0) (Hsq160 ++ (Hsq44 ++ (Hsq41 ++ ([(b10, .cells (segs [[(i64 ((lc.getD k jcall0).what_))], [(i64 ((lc.getD k jcall0).n_))], [(slv (lc.getD k jcall0).b)]]) 47 (0, 0)), (bn, .cells #[(ptr bdq5 0), (i64 (fr : Int)), (i64 (hh : Int)), (u64 ge), vr1, (i64 (roomB LW : Int))] 100 (0, 0))] ++ (Hr1 ++ ([(bdq5, .cells #[vlq5, (Value.slice none 0 0)] 94 (0, 0))] ++ (Hl1 ++ ([])))))))) := Mem.new (H := Hsq44 ++ (Hsq41 ++ ([(b10, .cells (segs [[(i64 ((lc.getD k jcall0).what_))], [(i64 ((lc.getD k jcall0).n_))], [(slv (lc.getD k jcall0).b)]]) 47 (0, 0)), (bn, .cells #[(ptr bdq5 0), (i64 (fr : Int)), (i64 (hh : Int)), (u64 ge), vr1, (i64 (roomB LW : Int))] 100 (0, 0))] ++ (Hr1 ++ ([(bdq5, .cells #[vlq5, (Value.slice none 0 0)] 94 (0, 0))] ++ (Hl1 ++ ([]))))))) (H' := Hsq160) hm155 k_w159
                       refine rw_gy (s := 145) rfl rfl hd158 rfl (opR_call Try.func26 bd26 nm26 (args2 rfl rfl) (c_same15 rq44 L1 rq160 L1 _ (grq44.rd (Mem.pick Hsq160 Hsq44 _ hm159)) (grq160.rd hm159) sL sL)) ?_
                       rintro _ w161 ⟨rfl, _ew161⟩
                       have hm161 := hm159.ext _ew161
                       refine rw_gyq (s := 145) rfl rfl hd158 rfl (ev_not rfl) <| rw_q rfl (ev_pick_fk rfl hd158 rfl) <| rw_q rfl (ev_move (v := (bl (!(L1 == L1)))) rfl) ?_
                       have hd163 : (L1 == L1) = true := told_true rfl
                       have hd164 : (!(L1 == L1)) = false := congrArg Bool.not hd163
                       refine rw_gyq (s := 152) rfl rfl hd164 rfl (ev_move s6) <| rw_gy (s := 152) rfl rfl hd164 rfl (opR_call Try.func19 bd19 nm19 (args1 rfl) (c_jrecords bn bdq5 (fr : Int) (hh : Int) ge vr1 rs1 (roomB LW : Int) _ ((Mem.pick4 Hsq160 Hsq44 Hsq41 [_] [_] _ hm161)).h0 (GrowL.rd gr1 (Mem.pick4 Hsq160 Hsq44 Hsq41 [_, _] Hr1 _ hm161) nN) sL (map_el hMr (P := fun b => b.length ≤ 35184372088832) (fun b hb => by have := hel b hb; omega)))) ?_
                       rintro rq166 w165 ⟨ls2q166, Hsq166, hMq166, hLq166, grq166, k_w165⟩
                       have hm165 : Mem w165 (restOf w0) (Hsq166 ++ (Hsq160 ++ (Hsq44 ++ (Hsq41 ++ ([(b10, .cells (segs [[(i64 ((lc.getD k jcall0).what_))], [(i64 ((lc.getD k jcall0).n_))], [(slv (lc.getD k jcall0).b)]]) 47 (0, 0)), (bn, .cells #[(ptr bdq5 0), (i64 (fr : Int)), (i64 (hh : Int)), (u64 ge), vr1, (i64 (roomB LW : Int))] 100 (0, 0))] ++ (Hr1 ++ ([(bdq5, .cells #[vlq5, (Value.slice none 0 0)] 94 (0, 0))] ++ (Hl1 ++ ([]))))))))) := Mem.new (H := Hsq160 ++ (Hsq44 ++ (Hsq41 ++ ([(b10, .cells (segs [[(i64 ((lc.getD k jcall0).what_))], [(i64 ((lc.getD k jcall0).n_))], [(slv (lc.getD k jcall0).b)]]) 47 (0, 0)), (bn, .cells #[(ptr bdq5 0), (i64 (fr : Int)), (i64 (hh : Int)), (u64 ge), vr1, (i64 (roomB LW : Int))] 100 (0, 0))] ++ (Hr1 ++ ([(bdq5, .cells #[vlq5, (Value.slice none 0 0)] 94 (0, 0))] ++ (Hl1 ++ ([])))))))) (H' := Hsq166) hm161 k_w165
                       have hMs : ls2q166.map (·.2) = LW := by rw [hMq166, hMr]
                       have hls := congrArg List.length hMs; rw [List.length_map] at hls
                       refine rw_gyq (s := 152) rfl rfl hd164 rfl (ev_move s11) <| rw_gy (s := 152) rfl rfl hd164 rfl (opR_call Try.func18 bd18 nm18 (args2 rfl rfl) (c_samelist rq166 ls2q166 rq41 ls2q41 _ (GrowL.rd grq166 hm165 nN) (GrowL.rd gw42 (Mem.pick3 Hsq166 Hsq160 Hsq44 Hsq41 _ hm165) (fun b o e => (hm165).rest b o e)) sL (map_el hMs (P := fun b => b.length ≤ 281474976710656) (fun b hb => by have := hel b hb; omega)))) ?_
                       rintro _ w167 ⟨rfl, _ew167⟩
                       have hm167 := hm165.ext _ew167
                       refine rw_gyq (s := 152) rfl rfl hd164 rfl (ev_not rfl) <| rw_q rfl (ev_pick_fk rfl hd164 rfl) <| rN ?_
                       have hd169 : ((ls2q166.map (·.2)) == (ls2q41.map (·.2))) = true := told_true (by rw [hMs, hMl])
                       have hd170 : (!((ls2q166.map (·.2)) == (ls2q41.map (·.2)))) = false := congrArg Bool.not hd169
                       refine cw_cond_f rfl hd170 ?_
                       refine cw_skip (kThen_normal ?_)
                       have hm171 := Mem.drop Hsq166 _ hm167
                       have hm172 := Mem.drop Hsq160 _ hm171
                       have hm173 := Mem.drop Hsq44 _ hm172
                       have hm174 := Mem.drop Hsq41 _ hm173
                       have hm175 := Mem.drop ([(b10, .cells (segs [[(i64 ((lc.getD k jcall0).what_))], [(i64 ((lc.getD k jcall0).n_))], [(slv (lc.getD k jcall0).b)]]) 47 (0, 0))]) _ hm174
                       exact ⟨bn, fr, ge, vr1, rs1, Hr1, L1, Hl1, LW, hJ, hMr, hel, gr1, gl1, s0, s1, s5, s6, s7, s8, s10, s11, s12, s13, s14, s21, s29, s40, s45, s46, s47, s48, s64, s87, (by
                         have hT := hm175
                         try simp only [List.append_assoc, List.cons_append, List.nil_append, List.append_nil] at hT ⊢
                         exact hT)⟩
                   · -- false
                     refine cw_region <| rM rfl s6 <| rw_c rfl (or_buildSlice_cl u8 [] u8_one hm51 uT23 ti5 rfl (by simp [pairs]) rfl) ?_
                     rintro _ w176 ⟨b130_1, rfl, _ew176, hm176⟩
                     refine rw_q rfl (ev_fa (r := 2) uT47 rfl (by first | rfl | omega) ti23 rfl s10) <| rw_q (v := (slv (lc.getD k jcall0).b)) rfl (ev_load_segv (v := (slv (lc.getD k jcall0).b)) [[(i64 ((lc.getD k jcall0).what_))], [(i64 ((lc.getD k jcall0).n_))]] [] uT23 rfl rfl ((Mem.pick3 [_] Hsq44 Hsq41 [_] _ hm176)).h0 (fl_cons (n := 1) (m := 1) (k := 2) rfl (fl_cons (n := 1) (m := 0) (k := 1) rfl fl_nil rfl) rfl)) <| rw_c rfl (or_append (f := u8) (Hs := [(b130_1, .cells (cl u8 ([])) 5 (0, 0))]) (H := Hsq44 ++ (Hsq41 ++ ([(b10, .cells (segs [[(i64 ((lc.getD k jcall0).what_))], [(i64 ((lc.getD k jcall0).n_))], [(slv (lc.getD k jcall0).b)]]) 47 (0, 0)), (bn, .cells #[(ptr bdq5 0), (i64 (fr : Int)), (i64 (hh : Int)), (u64 ge), vr1, (i64 (roomB LW : Int))] 100 (0, 0))] ++ (Hr1 ++ ([(bdq5, .cells #[vlq5, (Value.slice none 0 0)] 94 (0, 0))] ++ (Hl1 ++ ([]))))))) hm176 (Grow.of u8 5 b130_1 ([])) rfl rfl (Rd.ofRest (rdQ JCallT.b hqc (k := k) sD) hm176) uT23 uT23 ti5 rfl u8_one sL sL) ?_
                     rintro sv177 w177 ⟨Hs177, hm177, g177⟩
                     replace g177 : Grow u8 5 sv177 ((lc.getD k jcall0).b.2) Hs177 := g177
                     have hF179 : Mem w177 (restOf w0) (([(bn, .cells #[(ptr bdq5 0), (i64 (fr : Int)), (i64 (hh : Int)), (u64 ge), vr1, (i64 (roomB LW : Int))] 100 (0, 0))] ++ (Hr1 ++ ([(bdq5, .cells #[vlq5, (Value.slice none 0 0)] 94 (0, 0))] ++ (Hl1 ++ ([] ++ ([])))))) ++ (Hs177 ++ (Hsq44 ++ (Hsq41 ++ ([(b10, .cells (segs [[(i64 ((lc.getD k jcall0).what_))], [(i64 ((lc.getD k jcall0).n_))], [(slv (lc.getD k jcall0).b)]]) 47 (0, 0))]))))) := by
                       have hT := (Mem.pick7 Hr1 [_] Hl1 Hs177 Hsq44 Hsq41 [_] [_] _ (Mem.pick6 [_] Hl1 Hs177 Hsq44 Hsq41 [_, _] Hr1 _ (Mem.pick6 Hl1 Hs177 Hsq44 Hsq41 [_, _] Hr1 [_] _ (Mem.pick6 Hs177 Hsq44 Hsq41 [_, _] Hr1 [_] Hl1 _ hm177))))
                       try simp only [List.append_assoc, List.cons_append, List.nil_append, List.append_nil] at hT ⊢
                       exact hT
                     refine rw_c rfl (opR_call Try.func21 bd21 nm21 (args2 rfl rfl) (c_jrestart1 bn (fr : Int) (hh : Int) ge vr1 rs1 Hr1 (roomB LW : Int) bdq5 vlq5 L1 Hl1 (Value.slice none 0 0) ([]) ([]) sv177 ((lc.getD k jcall0).b.2) _ _ (Mem.give hF179) gr1 gl1 (GrowK.none encW 65 104) (g177.rdAdd hF179 (fun p hp => (List.mem_append_left _ hp))) sL sL sL sL okP_nil (badR_f hb127).1 (badR_f hb127).2)) ?_
                     rintro _ w178 ⟨vr2q180, rs2q180, Hr2q180, Hl2q180, rfl, hMq180, hLq180, gr2q180, gl2q180, k_w178⟩
                     have hm178 : Mem w178 (restOf w0) ([(bn, .cells #[(ptr bdq5 0), (i64 ((hh : Int) - (fr : Int))), (i64 (hh : Int)), (u64 (newB L1 ([]))), vr2q180, (i64 (blocksN ((lc.getD k jcall0).b.2).length : Int))] 100 (0, 0))] ++ (Hr2q180 ++ ([(bdq5, .cells #[vlq5, (Value.slice none 0 0)] 94 (0, 0))] ++ (Hl2q180 ++ (Hs177 ++ (Hsq44 ++ (Hsq41 ++ ([(b10, .cells (segs [[(i64 ((lc.getD k jcall0).what_))], [(i64 ((lc.getD k jcall0).n_))], [(slv (lc.getD k jcall0).b)]]) 47 (0, 0))])))))))) := (by
                       have hT := Mem.back hF179 k_w178
                       try simp only [List.append_assoc, List.cons_append, List.nil_append, List.append_nil] at hT ⊢
                       exact hT)
                     have hJ3 := restart_any hJ (fI := (hh : Int) - (fr : Int)) (badR_f hb127).2 (b := (lc.getD k jcall0).b.2) (by have hf := (badR_f hb127).1; omega) oM
                     obtain ⟨L3, hL3⟩ : ∃ q : List (List (BitVec 8)), q = (crashB (turnL L1 ([]) ((hh : Int) - (fr : Int)) (newB L1 ([])) [((lc.getD k jcall0).b.2)]) (turnP L1 ([]) ((hh : Int) - (fr : Int)) (newB L1 ([])) [((lc.getD k jcall0).b.2)]) [1#8]) := ⟨_, rfl⟩
                     have gg181 : GrowK (encA u8) 64 83 vlq5 L3 Hl2q180 := GrowK.cast gl2q180 (hL3.symm)
                     rw [← hL3] at hJ3
                     have hMr3 : rs2q180.map (·.2) = [(lc.getD k jcall0).b.2] := hMq180
                     have hel3 := el_one (show (lc.getD k jcall0).b.2.length ≤ 42000 by omega)
                     have hm182 : Mem w178 (restOf w0) ([(bn, .cells #[(ptr bdq5 0), (i64 ((hh - fr : Nat) : Int)), (i64 (hh : Int)), (u64 (newB L1 ([]))), vr2q180, (i64 (blocksN ((lc.getD k jcall0).b.2).length : Int))] 100 (0, 0))] ++ (Hr2q180 ++ ([(bdq5, .cells #[vlq5, (Value.slice none 0 0)] 94 (0, 0))] ++ (Hl2q180 ++ (Hs177 ++ (Hsq44 ++ (Hsq41 ++ ([(b10, .cells (segs [[(i64 ((lc.getD k jcall0).what_))], [(i64 ((lc.getD k jcall0).n_))], [(slv (lc.getD k jcall0).b)]]) 47 (0, 0))])))))))) := by rw [show ((hh - fr : Nat) : Int) = (hh : Int) - (fr : Int) by omega]; exact hm178
                     have hm183 : Mem w178 (restOf w0) ([(bn, .cells #[(ptr bdq5 0), (i64 ((hh - fr : Nat) : Int)), (i64 (hh : Int)), (u64 (newB L1 ([]))), vr2q180, (i64 (roomB [(lc.getD k jcall0).b.2] : Int))] 100 (0, 0))] ++ (Hr2q180 ++ ([(bdq5, .cells #[vlq5, (Value.slice none 0 0)] 94 (0, 0))] ++ (Hl2q180 ++ (Hs177 ++ (Hsq44 ++ (Hsq41 ++ ([(b10, .cells (segs [[(i64 ((lc.getD k jcall0).what_))], [(i64 ((lc.getD k jcall0).n_))], [(slv (lc.getD k jcall0).b)]]) 47 (0, 0))])))))))) := by rw [show (roomB [(lc.getD k jcall0).b.2] : Int) = (blocksN (lc.getD k jcall0).b.2.length : Int) by rw [room_1]]; exact hm182
                     have hlr3 := congrArg List.length hMr3; rw [List.length_map, List.length_singleton] at hlr3
                     refine rw_q rfl (ev_assign (v := (i64 0)) rfl) ?_
                     refine rN (sR ?_)
                     refine rM rfl s14 <| rM rfl s8 <| rw_q rfl (ev_i64_gtr rfl rfl) <| rw_q rfl (ev_move (v := (bl (decide ((hh : Int) < (blocksN (lc.getD k jcall0).b.2.length : Int))))) rfl) ?_
                     have hd184 : (decide ((hh : Int) < (blocksN (lc.getD k jcall0).b.2.length : Int))) = false := decide_eq_false (by have hf := (badR_f hb127).1; omega)
                     refine rw_gyq (s := 138) rfl rfl hd184 rfl (ev_move s12) <| rw_gy (s := 138) rfl rfl hd184 rfl (opR_call Try.func27 bd27 nm27 (args1 rfl) (c_rnewest rq44 L1 _ (grq44.rd (Mem.pick5 [_] Hr2q180 [_] Hl2q180 Hs177 Hsq44 _ hm183)) sL)) ?_
                     rintro _ w185 ⟨rfl, _ew185⟩
                     have hm185 := hm183.ext _ew185
                     refine rw_gyq (s := 138) rfl rfl hd184 rfl (ev_i64_geq (b := 4294967296) rfl rfl) <| rw_q rfl (ev_pick_fk rfl hd184 rfl) <| rN ?_
                     have hm187 := Mem.drop Hs177 _ (Mem.pick4 [_] Hr2q180 [_] Hl2q180 Hs177 _ hm185)
                     refine CW.abs (fun g => g 0 = vB ∧ g 1 = vc ∧ g 5 = (ptr bdq5 0) ∧ g 6 = (ptr bn 0) ∧ g 7 = (bl true) ∧ g 8 = (i64 (hh : Int)) ∧ g 10 = (ptr b10 0) ∧ g 11 = rq41 ∧ g 12 = rq44 ∧ g 13 = (i64 ((hh : Int) - (roomB LW : Int))) ∧ g 14 = (i64 (blocksN (lc.getD k jcall0).b.2.length : Int)) ∧ g 16 = (i64 0) ∧ g 21 = (bl false) ∧ g 29 = (bl gq20) ∧ g 40 = (bl false) ∧ g 45 = vc ∧ g 46 = (i64 (lc.length : Int)) ∧ g 47 = (i64 (k : Int)) ∧ g 48 = (bl (decide ((k : Int) < (lc.length : Int)))) ∧ g 64 = (i64 ((lc.getD k jcall0).what_)) ∧ g 87 = (bl (((lc.getD k jcall0).what_) == 0)) ∧ g 127 = (bl (((lc.getD k jcall0).what_) == 1)) ∧ g 142 = (bl (decide (4294967296 ≤ ((topK L1 L1.length : Int) + 1)))) ∧ True) ⟨s0, s1, s5, s6, s7, s8, s10, s11, s12, s13, s14, rfl, s21, s29, s40, s45, s46, s47, s48, rfl, rfl, rfl, rfl, trivial⟩ ?_
                     rintro fr188 ⟨s0, s1, s5, s6, s7, s8, s10, s11, s12, s13, s14, s16, s21, s29, s40, s45, s46, s47, s48, s64, s87, s127, s142, _⟩
                     have hd189 : (decide (4294967296 ≤ ((topK L1 L1.length : Int) + 1))) = false := decide_eq_false (by have hf := new_val (badR_f hb127).2; omega)
                     refine cw_cond_f s142 hd189 <| cw_seq <| cw_drawE (by kernel_rfl) ?_
                     refine re_or 4 7 rfl rfl ?_ ?_
                     · -- 4 ahead of 7
                       refine re_plan [(0, false), (1, false), (2, false), (3, false), (5, false), (6, false), (4, true)] 7 rfl (by kernel_rfl) <| dM rfl rfl s16 <| dw_q rfl rfl (fun _ _hx => ev_i64_neq (b := 0) rfl rfl) <| dw_q rfl rfl (fun _ _hx => ev_move (v := (bl (0 != 0))) rfl) ?_
                       have hd190 : (0 != 0) = false := told_ne rfl
                       refine dw_gqy (s := 161) rfl rfl rfl hd190 rfl (fun _ _hx => ev_move s6) <| dw_gqy (s := 161) rfl rfl rfl hd190 rfl (fun _ _hx => ev_fa (r := 2) uT47 rfl (by first | rfl | omega) ti23 rfl s10) <| dw_gqy (s := 161) rfl rfl rfl hd190 rfl (fun _ _hx => ev_load_segv (v := (slv (lc.getD k jcall0).b)) [[(i64 ((lc.getD k jcall0).what_))], [(i64 ((lc.getD k jcall0).n_))]] [] uT23 rfl rfl ((Mem.pick6 [_] Hr2q180 [_] Hl2q180 Hsq44 Hsq41 [_] _ (hm187.ext _hx))).h0 (fl_cons (n := 1) (m := 1) (k := 2) rfl (fl_cons (n := 1) (m := 0) (k := 1) rfl fl_nil rfl) rfl)) ?_
                       refine dw_gcy (s := 161) rfl rfl rfl hd190 rfl (fun w191 _ew191 => ?_)
                       have hm191 := hm187.ext _ew191
                       refine OpR.mono (opR_call Try.func19 bd19 nm19 (args1 rfl) (c_jrecords bn bdq5 ((hh - fr : Nat) : Int) (hh : Int) (newB L1 ([])) vr2q180 rs2q180 (roomB [(lc.getD k jcall0).b.2] : Int) _ hm191.h0 (GrowL.rd gr2q180 (Mem.pick [_] Hr2q180 _ hm191) nN) sL (map_el hMr3 (P := fun b => b.length ≤ 35184372088832) (fun b hb => by have := hel3 b hb; omega)))) ?_
                       rintro rq193 w192 ⟨ls2q193, Hsq193, hMq193, hLq193, grq193, k_w192⟩
                       refine ⟨k_w192.toExt, ?_⟩
                       have hm192 : Mem w192 (restOf w0) (Hsq193 ++ ([(bn, .cells #[(ptr bdq5 0), (i64 ((hh - fr : Nat) : Int)), (i64 (hh : Int)), (u64 (newB L1 ([]))), vr2q180, (i64 (roomB [(lc.getD k jcall0).b.2] : Int))] 100 (0, 0))] ++ (Hr2q180 ++ ([(bdq5, .cells #[vlq5, (Value.slice none 0 0)] 94 (0, 0))] ++ (Hl2q180 ++ (Hsq44 ++ (Hsq41 ++ ([(b10, .cells (segs [[(i64 ((lc.getD k jcall0).what_))], [(i64 ((lc.getD k jcall0).n_))], [(slv (lc.getD k jcall0).b)]]) 47 (0, 0))])))))))) := Mem.new (H := [(bn, .cells #[(ptr bdq5 0), (i64 ((hh - fr : Nat) : Int)), (i64 (hh : Int)), (u64 (newB L1 ([]))), vr2q180, (i64 (roomB [(lc.getD k jcall0).b.2] : Int))] 100 (0, 0))] ++ (Hr2q180 ++ ([(bdq5, .cells #[vlq5, (Value.slice none 0 0)] 94 (0, 0))] ++ (Hl2q180 ++ (Hsq44 ++ (Hsq41 ++ ([(b10, .cells (segs [[(i64 ((lc.getD k jcall0).what_))], [(i64 ((lc.getD k jcall0).n_))], [(slv (lc.getD k jcall0).b)]]) 47 (0, 0))]))))))) (H' := Hsq193) hm191 k_w192
                       refine dw_nil (fun w194 _ew194 => ?_)
                       have hm194 := hm192.ext _ew194
                       refine rw_gy (s := 161) rfl rfl hd190 rfl (or_buildSlice_ones [(slv (lc.getD k jcall0).b)] (List.all_eq_true.1 (one_cons rfl one_nil)) hm194 uT22 ti23 rfl rfl rfl) ?_
                       rintro _ w195 ⟨b166, rfl, _ew195, hm195⟩
                       have hm195 : Mem w195 (restOf w0) ([(b166, .cells #[(slv (lc.getD k jcall0).b)] 23 (0, 0))] ++ (Hsq193 ++ ([(bn, .cells #[(ptr bdq5 0), (i64 ((hh - fr : Nat) : Int)), (i64 (hh : Int)), (u64 (newB L1 ([]))), vr2q180, (i64 (roomB [(lc.getD k jcall0).b.2] : Int))] 100 (0, 0))] ++ (Hr2q180 ++ ([(bdq5, .cells #[vlq5, (Value.slice none 0 0)] 94 (0, 0))] ++ (Hl2q180 ++ (Hsq44 ++ (Hsq41 ++ ([(b10, .cells (segs [[(i64 ((lc.getD k jcall0).what_))], [(i64 ((lc.getD k jcall0).n_))], [(slv (lc.getD k jcall0).b)]]) 47 (0, 0))]))))))))) := hm195
                       obtain ⟨HL195, gL195, hmL195⟩ : ∃ q, GrowL (blks w0) 23 (slc b166 0 1 1) [toSl (slv (lc.getD k jcall0).b) ((lc.getD k jcall0).b.2)] q ∧ Mem w195 (restOf w0) (q ++ (Hsq193 ++ ([(bn, .cells #[(ptr bdq5 0), (i64 ((hh - fr : Nat) : Int)), (i64 (hh : Int)), (u64 (newB L1 ([]))), vr2q180, (i64 (roomB [(lc.getD k jcall0).b.2] : Int))] 100 (0, 0))] ++ (Hr2q180 ++ ([(bdq5, .cells #[vlq5, (Value.slice none 0 0)] 94 (0, 0))] ++ (Hl2q180 ++ (Hsq44 ++ (Hsq41 ++ ([(b10, .cells (segs [[(i64 ((lc.getD k jcall0).what_))], [(i64 ((lc.getD k jcall0).n_))], [(slv (lc.getD k jcall0).b)]]) 47 (0, 0))]))))))))) := ⟨_, GrowL.of1 (Rd.toSl ((lc.getD k jcall0).b.2) (rdQ JCallT.b hqc (k := k) sD)) (el_rest (rdQ JCallT.b hqc (k := k) sD)), (by
                         have hT := hm195
                         try simp only [List.append_assoc, List.cons_append, List.nil_append, List.append_nil] at hT ⊢
                         exact hT)⟩
                       refine rw_gy (s := 161) rfl rfl hd190 rfl (opR_call Try.func18 bd18 nm18 (args2 rfl rfl) (c_samelist rq193 ls2q193 (slc b166 0 1 1) ([toSl (slv (lc.getD k jcall0).b) ((lc.getD k jcall0).b.2)]) _ (GrowL.rd grq193 (Mem.pick HL195 Hsq193 _ hmL195) nN) (GrowL.rd gL195 hmL195 (fun b o e => (hmL195).rest b o e)) sL (map_el (hMq193.trans hMr3) (P := fun b => b.length ≤ 281474976710656) (fun b hb => by have := hel3 b hb; omega)))) ?_
                       rintro _ w196 ⟨rfl, _ew196⟩
                       have hm196 := hmL195.ext _ew196
                       refine rw_gyq (s := 161) rfl rfl hd190 rfl (ev_not rfl) <| rw_q rfl (ev_pick_fk rfl hd190 rfl) <| rN ?_
                       have hd198 : ((ls2q193.map (·.2)) == (([toSl (slv (lc.getD k jcall0).b) ((lc.getD k jcall0).b.2)]).map (·.2))) = true := told_true (by rw [hMq193, hMr3, one_map])
                       have hd199 : (!((ls2q193.map (·.2)) == (([toSl (slv (lc.getD k jcall0).b) ((lc.getD k jcall0).b.2)]).map (·.2)))) = false := congrArg Bool.not hd198
                       refine cw_cond_f rfl hd199 ?_
                       refine cw_skip (kThen_normal ?_)
                       have hm200 := Mem.drop HL195 _ hm196
                       have hm201 := Mem.drop Hsq193 _ hm200
                       have hm202 := Mem.drop Hsq44 _ (Mem.pick4 [_] Hr2q180 [_] Hl2q180 Hsq44 _ hm201)
                       have hm203 := Mem.drop Hsq41 _ (Mem.pick4 [_] Hr2q180 [_] Hl2q180 Hsq41 _ hm202)
                       have hm204 := Mem.drop ([(b10, .cells (segs [[(i64 ((lc.getD k jcall0).what_))], [(i64 ((lc.getD k jcall0).n_))], [(slv (lc.getD k jcall0).b)]]) 47 (0, 0))]) _ (Mem.pick4 [_] Hr2q180 [_] Hl2q180 [_] _ hm203)
                       exact ⟨bn, (hh - fr), (newB L1 ([])), vr2q180, rs2q180, Hr2q180, L3, Hl2q180, [(lc.getD k jcall0).b.2], hJ3, hMr3, hel3, gr2q180, gg181, s0, s1, s5, s6, s7, s8, s10, s11, s12, s13, s14, s21, s29, s40, s45, s46, s47, s48, s64, s87, (by
                         have hT := hm204
                         try simp only [List.append_assoc, List.cons_append, List.nil_append, List.append_nil] at hT ⊢
                         exact hT)⟩
                     · -- 7 ahead of 4
                       refine re_plan [(0, false), (1, false), (2, false), (3, false), (5, false), (6, false), (7, true), (4, true)] 8 rfl (by kernel_rfl) <| dM rfl rfl s16 <| dw_q rfl rfl (fun _ _hx => ev_i64_neq (b := 0) rfl rfl) <| dw_q rfl rfl (fun _ _hx => ev_move (v := (bl (0 != 0))) rfl) ?_
                       have hd205 : (0 != 0) = false := told_ne rfl
                       refine dw_gqy (s := 161) rfl rfl rfl hd205 rfl (fun _ _hx => ev_move s6) <| dw_gqy (s := 161) rfl rfl rfl hd205 rfl (fun _ _hx => ev_fa (r := 2) uT47 rfl (by first | rfl | omega) ti23 rfl s10) <| dw_gqy (s := 161) rfl rfl rfl hd205 rfl (fun _ _hx => ev_load_segv (v := (slv (lc.getD k jcall0).b)) [[(i64 ((lc.getD k jcall0).what_))], [(i64 ((lc.getD k jcall0).n_))]] [] uT23 rfl rfl ((Mem.pick6 [_] Hr2q180 [_] Hl2q180 Hsq44 Hsq41 [_] _ (hm187.ext _hx))).h0 (fl_cons (n := 1) (m := 1) (k := 2) rfl (fl_cons (n := 1) (m := 0) (k := 1) rfl fl_nil rfl) rfl)) ?_
                       refine dw_gcy (s := 161) rfl rfl rfl hd205 rfl (fun w206 _ew206 => ?_)
                       have hm206 := hm187.ext _ew206
                       refine OpR.mono (or_buildSlice_ones [(slv (lc.getD k jcall0).b)] (List.all_eq_true.1 (one_cons rfl one_nil)) hm206 uT22 ti23 rfl rfl rfl) ?_
                       rintro _ w207 ⟨b166_1, rfl, _ew207, hm207⟩
                       refine ⟨_ew207, ?_⟩
                       have hm207 : Mem w207 (restOf w0) ([(b166_1, .cells #[(slv (lc.getD k jcall0).b)] 23 (0, 0)), (bn, .cells #[(ptr bdq5 0), (i64 ((hh - fr : Nat) : Int)), (i64 (hh : Int)), (u64 (newB L1 ([]))), vr2q180, (i64 (roomB [(lc.getD k jcall0).b.2] : Int))] 100 (0, 0))] ++ (Hr2q180 ++ ([(bdq5, .cells #[vlq5, (Value.slice none 0 0)] 94 (0, 0))] ++ (Hl2q180 ++ (Hsq44 ++ (Hsq41 ++ ([(b10, .cells (segs [[(i64 ((lc.getD k jcall0).what_))], [(i64 ((lc.getD k jcall0).n_))], [(slv (lc.getD k jcall0).b)]]) 47 (0, 0))]))))))) := hm207
                       obtain ⟨HL207, gL207, hmL207⟩ : ∃ q, GrowL (blks w0) 23 (slc b166_1 0 1 1) [toSl (slv (lc.getD k jcall0).b) ((lc.getD k jcall0).b.2)] q ∧ Mem w207 (restOf w0) (q ++ ([(bn, .cells #[(ptr bdq5 0), (i64 ((hh - fr : Nat) : Int)), (i64 (hh : Int)), (u64 (newB L1 ([]))), vr2q180, (i64 (roomB [(lc.getD k jcall0).b.2] : Int))] 100 (0, 0))] ++ (Hr2q180 ++ ([(bdq5, .cells #[vlq5, (Value.slice none 0 0)] 94 (0, 0))] ++ (Hl2q180 ++ (Hsq44 ++ (Hsq41 ++ ([(b10, .cells (segs [[(i64 ((lc.getD k jcall0).what_))], [(i64 ((lc.getD k jcall0).n_))], [(slv (lc.getD k jcall0).b)]]) 47 (0, 0))])))))))) := ⟨_, GrowL.of1 (Rd.toSl ((lc.getD k jcall0).b.2) (rdQ JCallT.b hqc (k := k) sD)) (el_rest (rdQ JCallT.b hqc (k := k) sD)), (by
                         have hT := hm207
                         try simp only [List.append_assoc, List.cons_append, List.nil_append, List.append_nil] at hT ⊢
                         exact hT)⟩
                       refine dw_gcy (s := 161) rfl rfl rfl hd205 rfl (fun w208 _ew208 => ?_)
                       have hm208 := hmL207.ext _ew208
                       refine OpR.mono (opR_call Try.func19 bd19 nm19 (args1 rfl) (c_jrecords bn bdq5 ((hh - fr : Nat) : Int) (hh : Int) (newB L1 ([])) vr2q180 rs2q180 (roomB [(lc.getD k jcall0).b.2] : Int) _ ((Mem.pick HL207 [_] _ hm208)).h0 (GrowL.rd gr2q180 (Mem.pick2 HL207 [_] Hr2q180 _ hm208) nN) sL (map_el hMr3 (P := fun b => b.length ≤ 35184372088832) (fun b hb => by have := hel3 b hb; omega)))) ?_
                       rintro rq210 w209 ⟨ls2q210, Hsq210, hMq210, hLq210, grq210, k_w209⟩
                       refine ⟨k_w209.toExt, ?_⟩
                       have hm209 : Mem w209 (restOf w0) (Hsq210 ++ (HL207 ++ ([(bn, .cells #[(ptr bdq5 0), (i64 ((hh - fr : Nat) : Int)), (i64 (hh : Int)), (u64 (newB L1 ([]))), vr2q180, (i64 (roomB [(lc.getD k jcall0).b.2] : Int))] 100 (0, 0))] ++ (Hr2q180 ++ ([(bdq5, .cells #[vlq5, (Value.slice none 0 0)] 94 (0, 0))] ++ (Hl2q180 ++ (Hsq44 ++ (Hsq41 ++ ([(b10, .cells (segs [[(i64 ((lc.getD k jcall0).what_))], [(i64 ((lc.getD k jcall0).n_))], [(slv (lc.getD k jcall0).b)]]) 47 (0, 0))]))))))))) := Mem.new (H := HL207 ++ ([(bn, .cells #[(ptr bdq5 0), (i64 ((hh - fr : Nat) : Int)), (i64 (hh : Int)), (u64 (newB L1 ([]))), vr2q180, (i64 (roomB [(lc.getD k jcall0).b.2] : Int))] 100 (0, 0))] ++ (Hr2q180 ++ ([(bdq5, .cells #[vlq5, (Value.slice none 0 0)] 94 (0, 0))] ++ (Hl2q180 ++ (Hsq44 ++ (Hsq41 ++ ([(b10, .cells (segs [[(i64 ((lc.getD k jcall0).what_))], [(i64 ((lc.getD k jcall0).n_))], [(slv (lc.getD k jcall0).b)]]) 47 (0, 0))])))))))) (H' := Hsq210) hm208 k_w209
                       refine dw_nil (fun w211 _ew211 => ?_)
                       have hm211 := hm209.ext _ew211
                       refine rw_gy (s := 161) rfl rfl hd205 rfl (opR_call Try.func18 bd18 nm18 (args2 rfl rfl) (c_samelist rq210 ls2q210 (slc b166_1 0 1 1) ([toSl (slv (lc.getD k jcall0).b) ((lc.getD k jcall0).b.2)]) _ (GrowL.rd grq210 hm211 nN) (GrowL.rd gL207 (Mem.pick Hsq210 HL207 _ hm211) (fun b o e => (hm211).rest b o e)) sL (map_el (hMq210.trans hMr3) (P := fun b => b.length ≤ 281474976710656) (fun b hb => by have := hel3 b hb; omega)))) ?_
                       rintro _ w212 ⟨rfl, _ew212⟩
                       have hm212 := hm211.ext _ew212
                       refine rw_gyq (s := 161) rfl rfl hd205 rfl (ev_not rfl) <| rw_q rfl (ev_pick_fk rfl hd205 rfl) <| rN ?_
                       have hd214 : ((ls2q210.map (·.2)) == (([toSl (slv (lc.getD k jcall0).b) ((lc.getD k jcall0).b.2)]).map (·.2))) = true := told_true (by rw [hMq210, hMr3, one_map])
                       have hd215 : (!((ls2q210.map (·.2)) == (([toSl (slv (lc.getD k jcall0).b) ((lc.getD k jcall0).b.2)]).map (·.2)))) = false := congrArg Bool.not hd214
                       refine cw_cond_f rfl hd215 ?_
                       refine cw_skip (kThen_normal ?_)
                       have hm216 := Mem.drop Hsq210 _ hm212
                       have hm217 := Mem.drop HL207 _ hm216
                       have hm218 := Mem.drop Hsq44 _ (Mem.pick4 [_] Hr2q180 [_] Hl2q180 Hsq44 _ hm217)
                       have hm219 := Mem.drop Hsq41 _ (Mem.pick4 [_] Hr2q180 [_] Hl2q180 Hsq41 _ hm218)
                       have hm220 := Mem.drop ([(b10, .cells (segs [[(i64 ((lc.getD k jcall0).what_))], [(i64 ((lc.getD k jcall0).n_))], [(slv (lc.getD k jcall0).b)]]) 47 (0, 0))]) _ (Mem.pick4 [_] Hr2q180 [_] Hl2q180 [_] _ hm219)
                       exact ⟨bn, (hh - fr), (newB L1 ([])), vr2q180, rs2q180, Hr2q180, L3, Hl2q180, [(lc.getD k jcall0).b.2], hJ3, hMr3, hel3, gr2q180, gg181, s0, s1, s5, s6, s7, s8, s10, s11, s12, s13, s14, s21, s29, s40, s45, s46, s47, s48, s64, s87, (by
                         have hT := hm220
                         try simp only [List.append_assoc, List.cons_append, List.nil_append, List.append_nil] at hT ⊢
                         exact hT)⟩
                 · -- false
                   have hc126p := ne_of_beq_false hc126
                   refine sR <| rw_q rfl (ev_i64_eql (b := 2) rfl rfl) <| rw_q rfl (ev_assign (v := (bl (((lc.getD k jcall0).what_) == 2))) rfl) <| rN ?_
                   refine cw_cond rfl (fun hc221 => ?_) (fun hc221 => ?_)
                   · -- true
                     have hc221p := eq_of_beq hc221
                     refine cw_seq ?_
                     rcases Bool.eq_false_or_eq_true (newB L1 [] == 0#64) with hb222 | hb222
                     · -- true
                       have hb222p := eq_of_beq hb222
                       refine cw_region <| rM rfl s5 ?_
                       have hF224 : Mem w49 (restOf w0) (([(bdq5, .cells #[vlq5, (Value.slice none 0 0)] 94 (0, 0))] ++ (Hl1 ++ ([]))) ++ (Hsq44 ++ (Hsq41 ++ ([(b10, .cells (segs [[(i64 ((lc.getD k jcall0).what_))], [(i64 ((lc.getD k jcall0).n_))], [(slv (lc.getD k jcall0).b)]]) 47 (0, 0)), (bn, .cells #[(ptr bdq5 0), (i64 (fr : Int)), (i64 (hh : Int)), (u64 ge), vr1, (i64 (roomB LW : Int))] 100 (0, 0))] ++ (Hr1 ++ ([])))))) := by
                         have hT := (Mem.pick5 Hl1 Hsq44 Hsq41 [_, _] Hr1 [_] _ (Mem.pick5 Hsq44 Hsq41 [_, _] Hr1 [_] Hl1 _ hm51))
                         try simp only [List.append_assoc, List.cons_append, List.nil_append, List.append_nil] at hT ⊢
                         exact hT
                       refine rw_c rfl (opR_call Try.func24 bd24 nm24 (args1 rfl) (c_opensF bdq5 vlq5 L1 Hl1 _ _ (Mem.give hF224) gl1 sL hb222)) ?_
                       rintro _ w223 ⟨rfl, k_w223⟩
                       have hm223 : Mem w223 (restOf w0) ([(bdq5, .cells #[vlq5, (Value.slice none 0 0)] 94 (0, 0))] ++ (Hl1 ++ (Hsq44 ++ (Hsq41 ++ ([(b10, .cells (segs [[(i64 ((lc.getD k jcall0).what_))], [(i64 ((lc.getD k jcall0).n_))], [(slv (lc.getD k jcall0).b)]]) 47 (0, 0)), (bn, .cells #[(ptr bdq5 0), (i64 (fr : Int)), (i64 (hh : Int)), (u64 ge), vr1, (i64 (roomB LW : Int))] 100 (0, 0))] ++ (Hr1 ++ ([]))))))) := (by
                         have hT := Mem.back hF224 k_w223
                         try simp only [List.append_assoc, List.cons_append, List.nil_append, List.append_nil] at hT ⊢
                         exact hT)
                       refine rw_q rfl (ev_move (v := (Value.tuple #[(Value.pointer none), (bl true)])) rfl) <| rw_q (v := (Value.pointer none)) rfl (ev_extract rfl rfl) <| rw_q (v := (bl true)) rfl (ev_extract rfl rfl) <| rw_q rfl (ev_assign (v := (Value.pointer none)) rfl) <| rw_q rfl (ev_assign (v := (bl true)) rfl) ?_
                       refine rN (sR ?_)
                       refine rw_q rfl (ev_move (v := (bl true)) rfl) <| rw_q (v := (bl false)) rfl (ev_not (b := true) rfl) <| rw_q rfl (ev_move (v := (bl false)) rfl) <| rw_gyq (s := 179) rfl rfl rfl rfl (ev_move (v := (Value.pointer none)) rfl) <| rw_gyq (s := 179) rfl rfl rfl rfl (ev_nil_nil_eql uT29 rfl rfl) <| rw_q rfl (ev_pick_f rfl rfl) ?_
                       refine rN ?_
                       have hm226 := Mem.drop ([(bn, .cells #[(ptr bdq5 0), (i64 (fr : Int)), (i64 (hh : Int)), (u64 ge), vr1, (i64 (roomB LW : Int))] 100 (0, 0))]) _ (Mem.pick5 [_] Hl1 Hsq44 Hsq41 [_] [_] _ hm223)
                       have hm227 := Mem.drop Hr1 _ (Mem.pick5 [_] Hl1 Hsq44 Hsq41 [_] Hr1 _ hm226)
                       refine CW.abs (fun g => g 0 = vB ∧ g 1 = vc ∧ g 5 = (ptr bdq5 0) ∧ g 6 = (Value.pointer none) ∧ g 7 = (bl true) ∧ g 8 = (i64 (hh : Int)) ∧ g 10 = (ptr b10 0) ∧ g 11 = rq41 ∧ g 12 = rq44 ∧ g 13 = (i64 ((hh : Int) - (roomB LW : Int))) ∧ g 14 = (i64 (blocksN (lc.getD k jcall0).b.2.length : Int)) ∧ g 21 = (bl false) ∧ g 29 = (bl gq20) ∧ g 40 = (bl false) ∧ g 45 = vc ∧ g 46 = (i64 (lc.length : Int)) ∧ g 47 = (i64 (k : Int)) ∧ g 48 = (bl (decide ((k : Int) < (lc.length : Int)))) ∧ g 64 = (i64 ((lc.getD k jcall0).what_)) ∧ g 87 = (bl (((lc.getD k jcall0).what_) == 0)) ∧ g 127 = (bl (((lc.getD k jcall0).what_) == 1)) ∧ g 170 = (bl (((lc.getD k jcall0).what_) == 2)) ∧ g 182 = (bl true) ∧ True) ⟨s0, s1, s5, rfl, rfl, s8, s10, s11, s12, s13, s14, s21, s29, s40, s45, s46, s47, s48, rfl, rfl, rfl, rfl, rfl, trivial⟩ ?_
                       rintro fr228 ⟨s0, s1, s5, s6, s7, s8, s10, s11, s12, s13, s14, s21, s29, s40, s45, s46, s47, s48, s64, s87, s127, s170, s182, _⟩
                       refine cw_cond_t s182 (by decide) <| sR <| rM rfl s7 <| rw_q rfl (ev_assign (v := (bl true)) rfl) ?_
                       refine rN (cw_ret ?_)
                       refine kThen_ret (kBlk_ret (kBlk_ret (kThen_ret (kBlk_ret ?_))))
                       refine fnPost_ret [(bl true)] ⟨rfl, trivial⟩ ?_
                       exact ⟨rfl, Mem.below w0 hm227⟩
                     · -- false
                       have hb222p := ne_of_beq_false hb222
                       refine cw_region <| rM rfl s5 ?_
                       have hF230 : Mem w49 (restOf w0) (([(bdq5, .cells #[vlq5, (Value.slice none 0 0)] 94 (0, 0))] ++ (Hl1 ++ ([]))) ++ (Hsq44 ++ (Hsq41 ++ ([(b10, .cells (segs [[(i64 ((lc.getD k jcall0).what_))], [(i64 ((lc.getD k jcall0).n_))], [(slv (lc.getD k jcall0).b)]]) 47 (0, 0)), (bn, .cells #[(ptr bdq5 0), (i64 (fr : Int)), (i64 (hh : Int)), (u64 ge), vr1, (i64 (roomB LW : Int))] 100 (0, 0))] ++ (Hr1 ++ ([])))))) := by
                         have hT := (Mem.pick5 Hl1 Hsq44 Hsq41 [_, _] Hr1 [_] _ (Mem.pick5 Hsq44 Hsq41 [_, _] Hr1 [_] Hl1 _ hm51))
                         try simp only [List.append_assoc, List.cons_append, List.nil_append, List.append_nil] at hT ⊢
                         exact hT
                       refine rw_c rfl (opR_call Try.func24 bd24 nm24 (args1 rfl) (c_opens1 bdq5 vlq5 L1 Hl1 _ _ (Mem.give hF230) gl1 sL hb222)) ?_
                       rintro _ w229 ⟨bnq231, vrq231, rsq231, Hrq231, Hl2q231, rfl, hMq231, hLq231, grq231, gl2q231, k_w229⟩
                       have hm229 : Mem w229 (restOf w0) ([(bnq231, .cells #[(ptr bdq5 0), (i64 (((L1.length : Int) / 2) - (oldB L1 []).1)), (i64 ((L1.length : Int) / 2)), (u64 (newB L1 [])), vrq231, (i64 (roomB (oldB L1 []).2 : Int))] 100 (0, 0))] ++ (Hrq231 ++ ([(bdq5, .cells #[vlq5, (Value.slice none 0 0)] 94 (0, 0))] ++ (Hl2q231 ++ (Hsq44 ++ (Hsq41 ++ ([(b10, .cells (segs [[(i64 ((lc.getD k jcall0).what_))], [(i64 ((lc.getD k jcall0).n_))], [(slv (lc.getD k jcall0).b)]]) 47 (0, 0)), (bn, .cells #[(ptr bdq5 0), (i64 (fr : Int)), (i64 (hh : Int)), (u64 ge), vr1, (i64 (roomB LW : Int))] 100 (0, 0))] ++ (Hr1 ++ ([]))))))))) := (by
                         have hT := Mem.back hF230 k_w229
                         try simp only [List.append_assoc, List.cons_append, List.nil_append, List.append_nil] at hT ⊢
                         exact hT)
                       refine rw_q rfl (ev_move (v := (Value.tuple #[(ptr bnq231 0), (bl true)])) rfl) ?_
                       have hm232 := Mem.drop ([(bn, .cells #[(ptr bdq5 0), (i64 (fr : Int)), (i64 (hh : Int)), (u64 ge), vr1, (i64 (roomB LW : Int))] 100 (0, 0))]) _ (Mem.pick7 [_] Hrq231 [_] Hl2q231 Hsq44 Hsq41 [_] [_] _ hm229)
                       have hm233 := Mem.drop Hr1 _ (Mem.pick7 [_] Hrq231 [_] Hl2q231 Hsq44 Hsq41 [_] Hr1 _ hm232)
                       have hob := hJ.old
                       have hJ3 := open_again hJ hb222
                       have hMr3 : rsq231.map (·.2) = LW := by rw [hMq231, hob]
                       have hm234 : Mem w229 (restOf w0) ([(bnq231, .cells #[(ptr bdq5 0), (i64 ((hh - fr : Nat) : Int)), (i64 ((L1.length : Int) / 2)), (u64 (newB L1 [])), vrq231, (i64 (roomB (oldB L1 []).2 : Int))] 100 (0, 0))] ++ (Hrq231 ++ ([(bdq5, .cells #[vlq5, (Value.slice none 0 0)] 94 (0, 0))] ++ (Hl2q231 ++ (Hsq44 ++ (Hsq41 ++ ([(b10, .cells (segs [[(i64 ((lc.getD k jcall0).what_))], [(i64 ((lc.getD k jcall0).n_))], [(slv (lc.getD k jcall0).b)]]) 47 (0, 0))]))))))) := by rw [show ((hh - fr : Nat) : Int) = (L1.length : Int) / 2 - (oldB L1 []).1 by rw [hob]; show _ = _ - (fr : Int); omega]; exact hm233
                       have hm235 : Mem w229 (restOf w0) ([(bnq231, .cells #[(ptr bdq5 0), (i64 ((hh - fr : Nat) : Int)), (i64 (hh : Int)), (u64 (newB L1 [])), vrq231, (i64 (roomB (oldB L1 []).2 : Int))] 100 (0, 0))] ++ (Hrq231 ++ ([(bdq5, .cells #[vlq5, (Value.slice none 0 0)] 94 (0, 0))] ++ (Hl2q231 ++ (Hsq44 ++ (Hsq41 ++ ([(b10, .cells (segs [[(i64 ((lc.getD k jcall0).what_))], [(i64 ((lc.getD k jcall0).n_))], [(slv (lc.getD k jcall0).b)]]) 47 (0, 0))]))))))) := by rw [show (hh : Int) = (L1.length : Int) / 2 by omega]; exact hm234
                       have hm236 : Mem w229 (restOf w0) ([(bnq231, .cells #[(ptr bdq5 0), (i64 ((hh - fr : Nat) : Int)), (i64 (hh : Int)), (u64 (newB L1 [])), vrq231, (i64 (roomB LW : Int))] 100 (0, 0))] ++ (Hrq231 ++ ([(bdq5, .cells #[vlq5, (Value.slice none 0 0)] 94 (0, 0))] ++ (Hl2q231 ++ (Hsq44 ++ (Hsq41 ++ ([(b10, .cells (segs [[(i64 ((lc.getD k jcall0).what_))], [(i64 ((lc.getD k jcall0).n_))], [(slv (lc.getD k jcall0).b)]]) 47 (0, 0))]))))))) := by rw [show (roomB LW : Int) = (roomB (oldB L1 []).2 : Int) by rw [hob]]; exact hm235
                       refine rw_q (v := (ptr bnq231 0)) rfl (ev_extract rfl rfl) <| rw_q (v := (bl true)) rfl (ev_extract rfl rfl) <| rw_q rfl (ev_assign (v := (ptr bnq231 0)) rfl) <| rw_q rfl (ev_assign (v := (bl true)) rfl) ?_
                       refine rN (sR ?_)
                       refine rw_q rfl (ev_move (v := (bl true)) rfl) <| rw_q (v := (bl false)) rfl (ev_not (b := true) rfl) <| rw_q rfl (ev_move (v := (bl false)) rfl) <| rw_gyq (s := 179) rfl rfl rfl rfl (ev_move (v := (ptr bnq231 0)) rfl) <| rw_gyq (s := 179) rfl rfl rfl rfl (ev_ptr_nil_eql uT29 rfl rfl) <| rw_q rfl (ev_pick_f rfl rfl) ?_
                       refine rN ?_
                       refine CW.abs (fun g => g 0 = vB ∧ g 1 = vc ∧ g 5 = (ptr bdq5 0) ∧ g 6 = (ptr bnq231 0) ∧ g 7 = (bl true) ∧ g 8 = (i64 (hh : Int)) ∧ g 10 = (ptr b10 0) ∧ g 11 = rq41 ∧ g 12 = rq44 ∧ g 13 = (i64 ((hh : Int) - (roomB LW : Int))) ∧ g 14 = (i64 (blocksN (lc.getD k jcall0).b.2.length : Int)) ∧ g 21 = (bl false) ∧ g 29 = (bl gq20) ∧ g 40 = (bl false) ∧ g 45 = vc ∧ g 46 = (i64 (lc.length : Int)) ∧ g 47 = (i64 (k : Int)) ∧ g 48 = (bl (decide ((k : Int) < (lc.length : Int)))) ∧ g 64 = (i64 ((lc.getD k jcall0).what_)) ∧ g 87 = (bl (((lc.getD k jcall0).what_) == 0)) ∧ g 127 = (bl (((lc.getD k jcall0).what_) == 1)) ∧ g 170 = (bl (((lc.getD k jcall0).what_) == 2)) ∧ g 182 = (bl false) ∧ True) ⟨s0, s1, s5, rfl, rfl, s8, s10, s11, s12, s13, s14, s21, s29, s40, s45, s46, s47, s48, rfl, rfl, rfl, rfl, rfl, trivial⟩ ?_
                       rintro fr237 ⟨s0, s1, s5, s6, s7, s8, s10, s11, s12, s13, s14, s21, s29, s40, s45, s46, s47, s48, s64, s87, s127, s170, s182, _⟩
                       refine cw_cond_f s182 (by decide) ?_
                       refine cw_skip (kThen_normal ?_)
                       have hm238 := Mem.drop Hsq44 _ (Mem.pick4 [_] Hrq231 [_] Hl2q231 Hsq44 _ hm236)
                       have hm239 := Mem.drop Hsq41 _ (Mem.pick4 [_] Hrq231 [_] Hl2q231 Hsq41 _ hm238)
                       have hm240 := Mem.drop ([(b10, .cells (segs [[(i64 ((lc.getD k jcall0).what_))], [(i64 ((lc.getD k jcall0).n_))], [(slv (lc.getD k jcall0).b)]]) 47 (0, 0))]) _ (Mem.pick4 [_] Hrq231 [_] Hl2q231 [_] _ hm239)
                       exact ⟨bnq231, (hh - fr), (newB L1 []), vrq231, rsq231, Hrq231, (openD L1 []), Hl2q231, LW, hJ3, hMr3, hel, grq231, gl2q231, s0, s1, s5, s6, s7, s8, s10, s11, s12, s13, s14, s21, s29, s40, s45, s46, s47, s48, s64, s87, (by
                         have hT := hm240
                         try simp only [List.append_assoc, List.cons_append, List.nil_append, List.append_nil] at hT ⊢
                         exact hT)⟩
                   · -- false
                     have hc221p := ne_of_beq_false hc221
                     refine cw_seq <| cw_draw [(0, false), (1, false), (2, false), (3, false), (4, false), (5, false), (6, false), (7, false), (8, false), (9, false), (10, false), (11, false), (12, false), (13, false), (14, false), (15, false), (16, false), (17, false)] 18 (by kernel_rfl) <| dw_q rfl rfl (fun _ _hx => ev_fa (r := 1) uT47 rfl (by first | rfl | omega) ti3 rfl s10) <| dw_q (v := (i64 ((lc.getD k jcall0).n_))) rfl rfl (fun _ _hx => ev_load_segv (v := (i64 ((lc.getD k jcall0).n_))) [[(i64 ((lc.getD k jcall0).what_))]] [[(slv (lc.getD k jcall0).b)]] uT3 rfl rfl ((Mem.pick2 Hsq44 Hsq41 [_] _ (hm51.ext _hx))).h0 (fl_cons (n := 1) (m := 0) (k := 1) rfl fl_nil rfl)) <| dw_q rfl rfl (fun _ _hx => ev_i64_leq (b := 4300) rfl rfl) <| dw_q rfl rfl (fun _ _hx => ev_move (v := (bl (decide (((lc.getD k jcall0).n_) ≤ 4300)))) rfl) ?_
                     rcases Bool.eq_false_or_eq_true (decide (((lc.getD k jcall0).n_) ≤ 4300)) with hb241 | hb241
                     · -- true
                       have hb241p := of_decide_eq_true hb241
                       refine dw_gqy (s := 68) rfl rfl rfl hb241 rfl (fun _ _hx => ev_move s6) <| dw_gqy (s := 68) rfl rfl rfl hb241 rfl (fun _ _hx => ev_fa (r := 1) uT47 rfl (by first | rfl | omega) ti3 rfl s10) <| dw_gqy (s := 68) rfl rfl rfl hb241 rfl (fun _ _hx => ev_load_segv (v := (i64 ((lc.getD k jcall0).n_))) [[(i64 ((lc.getD k jcall0).what_))]] [[(slv (lc.getD k jcall0).b)]] uT3 rfl rfl ((Mem.pick2 Hsq44 Hsq41 [_] _ (hm51.ext _hx))).h0 (fl_cons (n := 1) (m := 0) (k := 1) rfl fl_nil rfl)) <| dw_gxy (s := 68) (v := (bl (fitsI (hh : Int) (roomB LW : Int) ((lc.getD k jcall0).n_)))) rfl rfl rfl hb241 rfl (fun w242 _ew242 => OpR.mono (opR_call Try.func16 bd16 nm16 (args2 rfl rfl) (c_jfitsI bn bdq5 (fr : Int) (hh : Int) ge vr1 (roomB LW : Int) ((lc.getD k jcall0).n_) _ ((Mem.pick3 Hsq44 Hsq41 [_] [_] _ (hm51.ext _ew242))).h0 sL sL sL)) (by rintro _ w243 ⟨rfl, _ew243⟩; exact ⟨rfl, _ew243⟩)) <| dw_gqy (s := 68) rfl rfl rfl hb241 rfl (fun _ _hx => ev_fa (r := 1) uT47 rfl (by first | rfl | omega) ti3 rfl s10) <| dw_gqy (s := 68) rfl rfl rfl hb241 rfl (fun _ _hx => ev_load_segv (v := (i64 ((lc.getD k jcall0).n_))) [[(i64 ((lc.getD k jcall0).what_))]] [[(slv (lc.getD k jcall0).b)]] uT3 rfl rfl ((Mem.pick2 Hsq44 Hsq41 [_] _ (hm51.ext _hx))).h0 (fl_cons (n := 1) (m := 0) (k := 1) rfl fl_nil rfl)) ?_
                       refine dw_gqy (s := 68) rfl rfl rfl hb241 rfl (fun _ _hx => ev_i64_geq (b := 0) rfl rfl) <| dw_gqy (s := 68) rfl rfl rfl hb241 rfl (fun _ _hx => ev_move (v := (bl (decide (0 ≤ ((lc.getD k jcall0).n_))))) rfl) ?_
                       rcases Bool.eq_false_or_eq_true (decide (0 ≤ ((lc.getD k jcall0).n_))) with hb245 | hb245
                       · -- true
                         have hb245p := of_decide_eq_true hb245
                         refine dw_gqy (s := 76) rfl rfl rfl hb245 rfl (fun _ _hx => ev_fa (r := 1) uT47 rfl (by first | rfl | omega) ti3 rfl s10) <| dw_gqy (s := 76) rfl rfl rfl hb245 rfl (fun _ _hx => ev_load_segv (v := (i64 ((lc.getD k jcall0).n_))) [[(i64 ((lc.getD k jcall0).what_))]] [[(slv (lc.getD k jcall0).b)]] uT3 rfl rfl ((Mem.pick2 Hsq44 Hsq41 [_] _ (hm51.ext _hx))).h0 (fl_cons (n := 1) (m := 0) (k := 1) rfl fl_nil rfl)) <| dw_gqy (s := 76) rfl rfl rfl hb245 rfl (fun _ _hx => ev_max_i64 (j := 1) rfl rfl) <| dw_gqy (s := 76) rfl rfl rfl hb245 rfl (fun _ _hx => ev_i64_add (b := 41) rfl rfl oM oM) <| dw_gqy (s := 76) rfl rfl rfl hb245 rfl (fun _ _hx => ev_i64_quo (b := 42) rfl rfl oM oM oM) <| dw_gqy (s := 76) rfl rfl rfl hb245 rfl (fun _ _hx => ev_move s13) ?_
                         refine dw_nil (fun w246 _ew246 => ?_)
                         have hm246 := hm51.ext _ew246
                         refine rw_gyq (s := 76) rfl rfl hb245 rfl (ev_i64_leq rfl rfl) <| rw_gyq (s := 68) rfl rfl hb241 rfl (ev_pick_tk rfl hb245 rfl) <| rw_gyq (s := 68) rfl rfl hb241 rfl (ev_bool_neq uT4 rfl rfl) <| rw_q rfl (ev_pick_tk rfl hb241 rfl) <| rN ?_
                         refine CW.abs (fun g => g 0 = vB ∧ g 1 = vc ∧ g 5 = (ptr bdq5 0) ∧ g 6 = (ptr bn 0) ∧ g 7 = (bl true) ∧ g 8 = (i64 (hh : Int)) ∧ g 10 = (ptr b10 0) ∧ g 11 = rq41 ∧ g 12 = rq44 ∧ g 13 = (i64 ((hh : Int) - (roomB LW : Int))) ∧ g 14 = (i64 (blocksN (lc.getD k jcall0).b.2.length : Int)) ∧ g 21 = (bl false) ∧ g 29 = (bl gq20) ∧ g 40 = (bl false) ∧ g 45 = vc ∧ g 46 = (i64 (lc.length : Int)) ∧ g 47 = (i64 (k : Int)) ∧ g 48 = (bl (decide ((k : Int) < (lc.length : Int)))) ∧ g 64 = (i64 ((lc.getD k jcall0).what_)) ∧ g 86 = (bl ((fitsI (hh : Int) (roomB LW : Int) ((lc.getD k jcall0).n_)) != (decide ((((if 1 > ((lc.getD k jcall0).n_) then 1 else (lc.getD k jcall0).n_) + 41) / 42) ≤ ((hh : Int) - (roomB LW : Int)))))) ∧ g 87 = (bl (((lc.getD k jcall0).what_) == 0)) ∧ g 127 = (bl (((lc.getD k jcall0).what_) == 1)) ∧ g 170 = (bl (((lc.getD k jcall0).what_) == 2)) ∧ True) ⟨s0, s1, s5, s6, s7, s8, s10, s11, s12, s13, s14, s21, s29, s40, s45, s46, s47, s48, rfl, rfl, rfl, rfl, rfl, trivial⟩ ?_
                         rintro fr247 ⟨s0, s1, s5, s6, s7, s8, s10, s11, s12, s13, s14, s21, s29, s40, s45, s46, s47, s48, s64, s86, s87, s127, s170, _⟩
                         have hd248 : ((fitsI (hh : Int) (roomB LW : Int) ((lc.getD k jcall0).n_)) != (decide ((((if 1 > ((lc.getD k jcall0).n_) then 1 else (lc.getD k jcall0).n_) + 41) / 42) ≤ ((hh : Int) - (roomB LW : Int))))) = false := (bne_eq_false_iff_eq.2 (fitsI_told hb245))
                         refine cw_cond_f s86 hd248 ?_
                         refine cw_skip (kThen_normal ?_)
                         have hm249 := Mem.drop Hsq44 _ hm246
                         have hm250 := Mem.drop Hsq41 _ hm249
                         have hm251 := Mem.drop ([(b10, .cells (segs [[(i64 ((lc.getD k jcall0).what_))], [(i64 ((lc.getD k jcall0).n_))], [(slv (lc.getD k jcall0).b)]]) 47 (0, 0))]) _ hm250
                         exact ⟨bn, fr, ge, vr1, rs1, Hr1, L1, Hl1, LW, hJ, hMr, hel, gr1, gl1, s0, s1, s5, s6, s7, s8, s10, s11, s12, s13, s14, s21, s29, s40, s45, s46, s47, s48, s64, s87, (by
                           have hT := hm251
                           try simp only [List.append_assoc, List.cons_append, List.nil_append, List.append_nil] at hT ⊢
                           exact hT)⟩
                       · -- false
                         have hb245p := of_decide_eq_false hb245
                         refine dw_gqn (s := 76) rfl rfl rfl hb245 rfl <| dw_gqn (s := 76) rfl rfl rfl hb245 rfl <| dw_gqn (s := 76) rfl rfl rfl hb245 rfl <| dw_gqn (s := 76) rfl rfl rfl hb245 rfl <| dw_gqn (s := 76) rfl rfl rfl hb245 rfl <| dw_gqn (s := 76) rfl rfl rfl hb245 rfl ?_
                         refine dw_nil (fun w252 _ew252 => ?_)
                         have hm252 := hm51.ext _ew252
                         refine rw_gn (s := 76) rfl rfl hb245 rfl <| rw_gyq (s := 68) rfl rfl hb241 rfl (ev_pick_fk rfl hb245 rfl) <| rw_gyq (s := 68) rfl rfl hb241 rfl (ev_bool_neq uT4 rfl rfl) <| rw_q rfl (ev_pick_tk rfl hb241 rfl) <| rN ?_
                         refine CW.abs (fun g => g 0 = vB ∧ g 1 = vc ∧ g 5 = (ptr bdq5 0) ∧ g 6 = (ptr bn 0) ∧ g 7 = (bl true) ∧ g 8 = (i64 (hh : Int)) ∧ g 10 = (ptr b10 0) ∧ g 11 = rq41 ∧ g 12 = rq44 ∧ g 13 = (i64 ((hh : Int) - (roomB LW : Int))) ∧ g 14 = (i64 (blocksN (lc.getD k jcall0).b.2.length : Int)) ∧ g 21 = (bl false) ∧ g 29 = (bl gq20) ∧ g 40 = (bl false) ∧ g 45 = vc ∧ g 46 = (i64 (lc.length : Int)) ∧ g 47 = (i64 (k : Int)) ∧ g 48 = (bl (decide ((k : Int) < (lc.length : Int)))) ∧ g 64 = (i64 ((lc.getD k jcall0).what_)) ∧ g 86 = (bl ((fitsI (hh : Int) (roomB LW : Int) ((lc.getD k jcall0).n_)) != false)) ∧ g 87 = (bl (((lc.getD k jcall0).what_) == 0)) ∧ g 127 = (bl (((lc.getD k jcall0).what_) == 1)) ∧ g 170 = (bl (((lc.getD k jcall0).what_) == 2)) ∧ True) ⟨s0, s1, s5, s6, s7, s8, s10, s11, s12, s13, s14, s21, s29, s40, s45, s46, s47, s48, rfl, rfl, rfl, rfl, rfl, trivial⟩ ?_
                         rintro fr253 ⟨s0, s1, s5, s6, s7, s8, s10, s11, s12, s13, s14, s21, s29, s40, s45, s46, s47, s48, s64, s86, s87, s127, s170, _⟩
                         have hd254 : ((fitsI (hh : Int) (roomB LW : Int) ((lc.getD k jcall0).n_)) != false) = false := (bne_eq_false_iff_eq.2 (fitsI_neg hb245).symm)
                         refine cw_cond_f s86 hd254 ?_
                         refine cw_skip (kThen_normal ?_)
                         have hm255 := Mem.drop Hsq44 _ hm252
                         have hm256 := Mem.drop Hsq41 _ hm255
                         have hm257 := Mem.drop ([(b10, .cells (segs [[(i64 ((lc.getD k jcall0).what_))], [(i64 ((lc.getD k jcall0).n_))], [(slv (lc.getD k jcall0).b)]]) 47 (0, 0))]) _ hm256
                         exact ⟨bn, fr, ge, vr1, rs1, Hr1, L1, Hl1, LW, hJ, hMr, hel, gr1, gl1, s0, s1, s5, s6, s7, s8, s10, s11, s12, s13, s14, s21, s29, s40, s45, s46, s47, s48, s64, s87, (by
                           have hT := hm257
                           try simp only [List.append_assoc, List.cons_append, List.nil_append, List.append_nil] at hT ⊢
                           exact hT)⟩
                     · -- false
                       have hb241p := of_decide_eq_false hb241
                       refine dw_gqn (s := 68) rfl rfl rfl hb241 rfl <| dw_gqn (s := 68) rfl rfl rfl hb241 rfl <| dw_gqn (s := 68) rfl rfl rfl hb241 rfl <| dw_gqn (s := 68) rfl rfl rfl hb241 rfl <| dw_gqn (s := 68) rfl rfl rfl hb241 rfl <| dw_gqn (s := 68) rfl rfl rfl hb241 rfl ?_
                       refine dw_gqn (s := 68) rfl rfl rfl hb241 rfl <| dw_gqn (s := 68) rfl rfl rfl hb241 rfl <| dw_gun (s := 76) rfl rfl rfl rfl <| dw_gun (s := 76) rfl rfl rfl rfl <| dw_gun (s := 76) rfl rfl rfl rfl <| dw_gun (s := 76) rfl rfl rfl rfl ?_
                       refine dw_gun (s := 76) rfl rfl rfl rfl <| dw_gun (s := 76) rfl rfl rfl rfl ?_
                       refine dw_nil (fun w258 _ew258 => ?_)
                       have hm258 := hm51.ext _ew258
                       refine rw_gu (s := 76) rfl rfl rfl <| rw_gn (s := 68) rfl rfl hb241 rfl <| rw_gn (s := 68) rfl rfl hb241 rfl <| rw_q rfl (ev_pick_fk rfl hb241 rfl) <| rN ?_
                       refine CW.abs (fun g => g 0 = vB ∧ g 1 = vc ∧ g 5 = (ptr bdq5 0) ∧ g 6 = (ptr bn 0) ∧ g 7 = (bl true) ∧ g 8 = (i64 (hh : Int)) ∧ g 10 = (ptr b10 0) ∧ g 11 = rq41 ∧ g 12 = rq44 ∧ g 13 = (i64 ((hh : Int) - (roomB LW : Int))) ∧ g 14 = (i64 (blocksN (lc.getD k jcall0).b.2.length : Int)) ∧ g 21 = (bl false) ∧ g 29 = (bl gq20) ∧ g 40 = (bl false) ∧ g 45 = vc ∧ g 46 = (i64 (lc.length : Int)) ∧ g 47 = (i64 (k : Int)) ∧ g 48 = (bl (decide ((k : Int) < (lc.length : Int)))) ∧ g 64 = (i64 ((lc.getD k jcall0).what_)) ∧ g 86 = (bl false) ∧ g 87 = (bl (((lc.getD k jcall0).what_) == 0)) ∧ g 127 = (bl (((lc.getD k jcall0).what_) == 1)) ∧ g 170 = (bl (((lc.getD k jcall0).what_) == 2)) ∧ True) ⟨s0, s1, s5, s6, s7, s8, s10, s11, s12, s13, s14, s21, s29, s40, s45, s46, s47, s48, rfl, rfl, rfl, rfl, rfl, trivial⟩ ?_
                       rintro fr259 ⟨s0, s1, s5, s6, s7, s8, s10, s11, s12, s13, s14, s21, s29, s40, s45, s46, s47, s48, s64, s86, s87, s127, s170, _⟩
                       refine cw_cond_f s86 (by decide) ?_
                       refine cw_skip (kThen_normal ?_)
                       have hm260 := Mem.drop Hsq44 _ hm258
                       have hm261 := Mem.drop Hsq41 _ hm260
                       have hm262 := Mem.drop ([(b10, .cells (segs [[(i64 ((lc.getD k jcall0).what_))], [(i64 ((lc.getD k jcall0).n_))], [(slv (lc.getD k jcall0).b)]]) 47 (0, 0))]) _ hm261
                       exact ⟨bn, fr, ge, vr1, rs1, Hr1, L1, Hl1, LW, hJ, hMr, hel, gr1, gl1, s0, s1, s5, s6, s7, s8, s10, s11, s12, s13, s14, s21, s29, s40, s45, s46, s47, s48, s64, s87, (by
                         have hT := hm262
                         try simp only [List.append_assoc, List.cons_append, List.nil_append, List.append_nil] at hT ⊢
                         exact hT)⟩
             · rintro fr263 w264 ⟨bn2, fr2, ge2, vr2, rs2, Hr2, L2, Hl2, LW2, hJ2, hMr2, hel2, gr2, gl2, s0, s1, s5, s6, s7, s8, s10, s11, s12, s13, s14, s21, s29, s40, s45, s46, s47, s48, s64, s87, hm264⟩
               have hlr2 := congrArg List.length hMr2; rw [List.length_map] at hlr2
               have hJl2 := hJ2.len; have hJr2 := hJ2.room; have hJs2 := hJ2.small; have hJd2 := hJ2.disk
               have hrml2 := room_len (L := LW2)
               refine sR <| rM rfl s5 <| rw_c rfl (opR_call Try.func25 bd25 nm25 (args1 rfl) (c_blocks bdq5 vlq5 L2 (Value.slice none 0 0) _ ((Mem.pick2 [_] Hr2 [_] _ hm264)).h0 (gl2.rd (Mem.pick3 [_] Hr2 [_] Hl2 _ hm264)) (RdK.nil _ _) sL)) ?_
               rintro rq266 w265 ⟨Hsq266, grq266, k_w265⟩
               have hm265 : Mem w265 (restOf w0) (Hsq266 ++ ([(bn2, .cells #[(ptr bdq5 0), (i64 (fr2 : Int)), (i64 (hh : Int)), (u64 ge2), vr2, (i64 (roomB LW2 : Int))] 100 (0, 0))] ++ (Hr2 ++ ([(bdq5, .cells #[vlq5, (Value.slice none 0 0)] 94 (0, 0))] ++ (Hl2 ++ ([])))))) := Mem.new (H := [(bn2, .cells #[(ptr bdq5 0), (i64 (fr2 : Int)), (i64 (hh : Int)), (u64 ge2), vr2, (i64 (roomB LW2 : Int))] 100 (0, 0))] ++ (Hr2 ++ ([(bdq5, .cells #[vlq5, (Value.slice none 0 0)] 94 (0, 0))] ++ (Hl2 ++ ([]))))) (H' := Hsq266) hm264 k_w265
               refine rw_c rfl (opR_call Try.func28 bd28 nm28 (args1 rfl) (c_rdisk rq266 L2 _ (grq266.rd hm265) sL)) ?_
               rintro _ w267 ⟨r1q268, lsq268, Hsq268, rfl, hMq268, hLq268, grq268, k_w267⟩
               have hm267 : Mem w267 (restOf w0) (Hsq268 ++ (Hsq266 ++ ([(bn2, .cells #[(ptr bdq5 0), (i64 (fr2 : Int)), (i64 (hh : Int)), (u64 ge2), vr2, (i64 (roomB LW2 : Int))] 100 (0, 0))] ++ (Hr2 ++ ([(bdq5, .cells #[vlq5, (Value.slice none 0 0)] 94 (0, 0))] ++ (Hl2 ++ ([]))))))) := Mem.new (H := Hsq266 ++ ([(bn2, .cells #[(ptr bdq5 0), (i64 (fr2 : Int)), (i64 (hh : Int)), (u64 ge2), vr2, (i64 (roomB LW2 : Int))] 100 (0, 0))] ++ (Hr2 ++ ([(bdq5, .cells #[vlq5, (Value.slice none 0 0)] 94 (0, 0))] ++ (Hl2 ++ ([])))))) (H' := Hsq268) hm265 k_w267
               have hMd : lsq268.map (·.2) = LW2 := by rw [hMq268, hJd2]
               have hld : lsq268.length = LW2.length := by rw [hLq268, hJd2]
               refine rw_q rfl (ev_move (v := (Value.tuple #[(bl ((diskR L2).1)), (i64 ((diskR L2).2.1 : Int)), r1q268])) rfl) <| rw_q (v := (bl ((diskR L2).1))) rfl (ev_extract rfl rfl) <| rw_q (v := (i64 ((diskR L2).2.1 : Int))) rfl (ev_extract rfl rfl) <| rw_q (v := r1q268) rfl (ev_extract rfl rfl) <| rw_q rfl (ev_assign (v := (bl ((diskR L2).1))) rfl) <| rw_q rfl (ev_assign (v := (i64 ((diskR L2).2.1 : Int))) rfl) ?_
               refine rA rfl (v := r1q268) rfl ?_
               refine rN (sR ?_)
               refine rM rfl (v := r1q268) rfl <| rM rfl s6 <| rw_c rfl (opR_call Try.func19 bd19 nm19 (args1 rfl) (c_jrecords bn2 bdq5 (fr2 : Int) (hh : Int) ge2 vr2 rs2 (roomB LW2 : Int) _ ((Mem.pick2 Hsq268 Hsq266 [_] _ hm267)).h0 (GrowL.rd gr2 (Mem.pick3 Hsq268 Hsq266 [_] Hr2 _ hm267) nN) sL (map_el hMr2 (P := fun b => b.length ≤ 35184372088832) (fun b hb => by have := hel2 b hb; omega)))) ?_
               rintro rq270 w269 ⟨ls2q270, Hsq270, hMq270, hLq270, grq270, k_w269⟩
               have hm269 : Mem w269 (restOf w0) (Hsq270 ++ (Hsq268 ++ (Hsq266 ++ ([(bn2, .cells #[(ptr bdq5 0), (i64 (fr2 : Int)), (i64 (hh : Int)), (u64 ge2), vr2, (i64 (roomB LW2 : Int))] 100 (0, 0))] ++ (Hr2 ++ ([(bdq5, .cells #[vlq5, (Value.slice none 0 0)] 94 (0, 0))] ++ (Hl2 ++ ([])))))))) := Mem.new (H := Hsq268 ++ (Hsq266 ++ ([(bn2, .cells #[(ptr bdq5 0), (i64 (fr2 : Int)), (i64 (hh : Int)), (u64 ge2), vr2, (i64 (roomB LW2 : Int))] 100 (0, 0))] ++ (Hr2 ++ ([(bdq5, .cells #[vlq5, (Value.slice none 0 0)] 94 (0, 0))] ++ (Hl2 ++ ([]))))))) (H' := Hsq270) hm267 k_w269
               have hMt : ls2q270.map (·.2) = LW2 := by rw [hMq270, hMr2]
               refine rw_c rfl (opR_call Try.func18 bd18 nm18 (args2 rfl rfl) (c_samelist r1q268 lsq268 rq270 ls2q270 _ (GrowL.rd grq268 (Mem.pick Hsq270 Hsq268 _ hm269) nN) (GrowL.rd grq270 hm269 nN) sL (map_el hMd (P := fun b => b.length ≤ 281474976710656) (fun b hb => by have := hel2 b hb; omega)))) ?_
               rintro _ w271 ⟨rfl, _ew271⟩
               have hm271 := hm269.ext _ew271
               refine rw_q rfl (ev_not rfl) <| rw_q rfl (ev_move (v := (bl (!((lsq268.map (·.2)) == (ls2q270.map (·.2)))))) rfl) ?_
               have hd273 : ((lsq268.map (·.2)) == (ls2q270.map (·.2))) = true := told_true (by rw [hMd, hMt])
               have hd274 : (!((lsq268.map (·.2)) == (ls2q270.map (·.2)))) = false := congrArg Bool.not hd273
               refine rw_gyq (s := 196) rfl rfl hd274 rfl (ev_move s5) <| rw_gy (s := 196) rfl rfl hd274 rfl (opR_call Try.func29 bd29 nm29 (args1 rfl) (c_dpend bdq5 vlq5 L2 (Value.slice none 0 0) ([]) _ ((Mem.pick5 Hsq270 Hsq268 Hsq266 [_] Hr2 [_] _ hm271)).h0 (gl2.rd (Mem.pick6 Hsq270 Hsq268 Hsq266 [_] Hr2 [_] Hl2 _ hm271)) (RdK.nil _ _))) ?_
               rintro _ w275 ⟨rfl, _ew275⟩
               have hm275 := hm271.ext _ew275
               refine rw_gyq (s := 196) rfl rfl hd274 rfl (ev_i64_neq (b := 0) rfl rfl) <| rw_q rfl (ev_pick_fk rfl hd274 rfl) <| rN ?_
               have hm277 := Mem.drop Hsq270 _ hm275
               have hm278 := Mem.drop Hsq266 _ (Mem.pick Hsq268 Hsq266 _ hm277)
               refine CW.abs (fun g => g 0 = vB ∧ g 1 = vc ∧ g 5 = (ptr bdq5 0) ∧ g 6 = (ptr bn2 0) ∧ g 7 = (bl true) ∧ g 8 = (i64 (hh : Int)) ∧ g 10 = (ptr b10 0) ∧ g 11 = rq41 ∧ g 12 = rq44 ∧ g 13 = (i64 ((hh : Int) - (roomB LW : Int))) ∧ g 14 = (i64 (blocksN (lc.getD k jcall0).b.2.length : Int)) ∧ g 19 = r1q268 ∧ g 21 = (bl false) ∧ g 29 = (bl gq20) ∧ g 40 = (bl false) ∧ g 45 = vc ∧ g 46 = (i64 (lc.length : Int)) ∧ g 47 = (i64 (k : Int)) ∧ g 48 = (bl (decide ((k : Int) < (lc.length : Int)))) ∧ g 64 = (i64 ((lc.getD k jcall0).what_)) ∧ g 87 = (bl (((lc.getD k jcall0).what_) == 0)) ∧ g 200 = (bl (((([]) : List WriteT).length : Int) != 0)) ∧ True) ⟨s0, s1, s5, s6, s7, s8, s10, s11, s12, s13, s14, rfl, s21, s29, s40, s45, s46, s47, s48, s64, s87, rfl, trivial⟩ ?_
               rintro fr279 ⟨s0, s1, s5, s6, s7, s8, s10, s11, s12, s13, s14, s19, s21, s29, s40, s45, s46, s47, s48, s64, s87, s200, _⟩
               have hd280 : (((([]) : List WriteT).length : Int) != 0) = false := rfl
               refine cw_cond_f s200 hd280 ?_
               refine cw_skip (kBlk_normal (cw_region ?_))
               refine rw_q rfl (ev_i64_add (b := 1) s47 rfl oM oM) <| rw_q rfl (ev_move (v := (i64 ((k : Int) + 1))) rfl) <| rN ?_
               have hm281 := Mem.drop Hsq268 _ hm278
               exact ⟨⟨(k + 1), bn2, fr2, ge2, vr2, rs2, Hr2, L2, Hl2, LW2, oM, hJ2, hMr2, hel2, gr2, gl2, s0, s1, s5, s6, s7, s8, s21, s29, s40, s45, s46, rfl, (by
                 have hT := hm281
                 try simp only [List.append_assoc, List.cons_append, List.nil_append, List.append_nil] at hT ⊢
                 exact hT)⟩, meas (rfl) z47 oM oM⟩
           · -- false
             have hc37p := of_decide_eq_false hc37
             refine cw_exit ?_
             refine kThen_exit (kThen_exit (kBlk_hit ?_))
             refine sR <| rw_q rfl (ev_assign (v := (bl true)) rfl) ?_
             refine rN (cw_ret ?_)
             refine fnPost_ret [(bl true)] ⟨rfl, trivial⟩ ?_
             exact ⟨rfl, Mem.below w0 hm36⟩
 · -- false
   have hnn := inR_f hb3
   refine cw_region <| rM rfl (v := vB) rfl <| rw_c rfl (opR_call Try.func22 bd22 nm22 (args1 rfl) (c_raw0 vB lB _ (RdK.ofRest hb hm1) sL sL)) ?_
   rintro _ w282 ⟨rfl, _ew282⟩
   have hm282 := hm1.ext _ew282
   refine rw_q rfl (ev_assign (v := (Value.pointer none)) rfl) ?_
   refine rN (cw_seq (cw_seq ?_))
   rcases Bool.eq_false_or_eq_true (decide (lB.length < 4)) with hb284 | hb284
   · -- true
     have hb284p := of_decide_eq_true hb284
     have hn4 := of_decide_eq_true hb284
     refine cw_region <| rw_q rfl (ev_move (v := (Value.pointer none)) rfl) <| rw_q rfl (ev_nil_nil_eql uT25 rfl rfl) <| rw_q rfl (ev_move (v := (bl true)) rfl) <| rw_gn (s := 26) rfl rfl rfl rfl <| rw_gn (s := 26) rfl rfl rfl rfl ?_
     refine rw_q rfl (ev_pick_t rfl rfl) <| rN <| cw_cond_t rfl (by decide) <| sR <| rw_q rfl (ev_assign (v := (bl true)) rfl) ?_
     refine rN (cw_ret (kThen_ret ?_))
     refine fnPost_ret [(bl true)] ⟨rfl, trivial⟩ ?_
     exact ⟨rfl, Mem.below w0 hm282⟩
   · -- false
     have hb284p := of_decide_eq_false hb284
     have hn4 := of_decide_eq_false hb284
     refine cw_region <| rw_q rfl (ev_move (v := (Value.pointer none)) rfl) <| rw_q rfl (ev_nil_nil_eql uT25 rfl rfl) <| rw_q rfl (ev_move (v := (bl true)) rfl) <| rw_gn (s := 26) rfl rfl rfl rfl <| rw_gn (s := 26) rfl rfl rfl rfl ?_
     refine rw_q rfl (ev_pick_t rfl rfl) <| rN <| cw_cond_t rfl (by decide) <| sR <| rw_q rfl (ev_assign (v := (bl true)) rfl) ?_
     refine rN (cw_ret (kThen_ret ?_))
     refine fnPost_ret [(bl true)] ⟨rfl, trivial⟩ ?_
     exact ⟨rfl, Mem.below w0 hm282⟩


end Go.Proofs.Ytfbnhoolkajebaa
