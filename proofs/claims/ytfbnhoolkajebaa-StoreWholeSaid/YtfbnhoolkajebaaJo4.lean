/- Records read: plain law; contract of record. Conditions: none beyond those that each theorem states. -/
import Derived.Test.YtfbnhoolkajebaaJo3
namespace Go.Proofs.Ytfbnhoolkajebaa
set_option linter.unusedVariables false
set_option linter.unusedSimpArgs false
/-! ### Reading records -/
structure RecT where
  b : List (BitVec 8)
  of_ : BitVec 64
  next : Int
  ok : Bool
def recN : RecT := ⟨[], 0#64, 0, false⟩
def gOf (y : List (BitVec 8)) : BitVec 64 := getB ((y.drop 0).take 4)
def rOf (y : List (BitVec 8)) : BitVec 64 := getB ((y.drop 4).take 4)
def pOf (y : List (BitVec 8)) : BitVec 64 := getB ((y.drop 8).take 2)
def nOf (y : List (BitVec 8)) : BitVec 64 := getB ((y.drop 10).take 2)
def lastP (y : List (BitVec 8)) : Bool := (pOf y &&& 32768#64) != 0#64
def badB (y : List (BitVec 8)) (g num : BitVec 64) (i : Nat) : Bool :=
  !((y.drop 0).take 10 == (y.drop 54).take 10) || gOf y != g || g == 0#64 || rOf y != num || ((pOf y &&& ~~~32768#64).toNat : Int) != (i : Int) || decide ((42 : Int) < ((nOf y).toNat : Int)) || (!lastP y && decide (((nOf y).toNat : Int) < 42))
def genF (g : BitVec 64) (y : List (BitVec 8)) : BitVec 64 := if (g == 0#64) = true then gOf y else g
theorem genF_t {g : BitVec 64} {y : List (BitVec 8)} (h : (g == 0#64) = true) : getB ((y.drop 0).take 4) = genF g y := by unfold genF; rw [if_pos h]; rfl
theorem genF_f {g : BitVec 64} {y : List (BitVec 8)} (h : (g == 0#64) = false) : g = genF g y := by unfold genF; rw [h]; rfl
def dataB (y : List (BitVec 8)) : List (BitVec 8) := (y.drop 12).take (nOf y).toNat
theorem data_eq {y : List (BitVec 8)} : (y.drop (12 : Int).toNat).take ((12 + ((getB ((y.drop 10).take 2)).toNat : Int) : Int).toNat - (12 : Int).toNat) = dataB y := by
  unfold dataB nOf
  have e1 : (12 : Int).toNat = 12 := rfl
  have e2 : (12 + ((getB ((y.drop 10).take 2)).toNat : Int) : Int).toNat = 12 + (getB ((y.drop 10).take 2)).toNat := by omega
  rw [e1, e2, Nat.add_sub_cancel_left]
def recB (X : Int → List (BitVec 8)) (num : BitVec 64) (pos : Int) : Nat → Nat → BitVec 64 → List (BitVec 8) → RecT
  | 0, _, _, _ => recN
  | f + 1, i, g, acc =>
    if badB (X (i : Int)) (genF g (X (i : Int))) num i = true then recN
    else if lastP (X (i : Int)) = true then ⟨acc ++ dataB (X (i : Int)), genF g (X (i : Int)), pos + (i : Int) + 1, true⟩
    else recB X num pos f (i + 1) (genF g (X (i : Int))) (acc ++ dataB (X (i : Int)))
def recF (ls : List (List (BitVec 8))) (ps : List WriteT) (fr0 sz : Int) (g num : BitVec 64) (pos : Int) : RecT := recB (fun i => readB ls ps (fr0 + pos + i)) num pos (sz - pos).toNat 0 g []
section
variable {X : Int → List (BitVec 8)} {num g : BitVec 64} {pos sz : Int} {k : Nat} {acc y : List (BitVec 8)} {r : RecT}
theorem rec_bad (hk : pos + (k : Int) < sz) (hy : y = X (k : Int)) (hb : badB y (genF g y) num k = true) (hr : recB X num pos ((sz - pos).toNat - k) k g acc = r) : r = recN := by
  obtain ⟨f, hf⟩ : ∃ f, (sz - pos).toNat - k = f + 1 := ⟨(sz - pos).toNat - k - 1, by omega⟩
  rw [hf] at hr; subst hy; rw [← hr]; show (if _ then _ else _) = _; rw [if_pos hb]
theorem rec_last (hk : pos + (k : Int) < sz) (hy : y = X (k : Int)) (hb : badB y (genF g y) num k = false) (hl : lastP y = true) (hr : recB X num pos ((sz - pos).toNat - k) k g acc = r) : r = ⟨acc ++ dataB y, genF g y, pos + (k : Int) + 1, true⟩ := by
  obtain ⟨f, hf⟩ : ∃ f, (sz - pos).toNat - k = f + 1 := ⟨(sz - pos).toNat - k - 1, by omega⟩
  rw [hf] at hr; subst hy; rw [← hr]; show (if _ then _ else _) = _; rw [if_neg (by rw [hb]; simp), if_pos hl]
theorem rec_more (hk : pos + (k : Int) < sz) (hy : y = X (k : Int)) (hb : badB y (genF g y) num k = false) (hl : lastP y = false) (hr : recB X num pos ((sz - pos).toNat - k) k g acc = r) : recB X num pos ((sz - pos).toNat - (k + 1)) (k + 1) (genF g y) (acc ++ dataB y) = r := by
  obtain ⟨f, hf⟩ : ∃ f, (sz - pos).toNat - k = f + 1 := ⟨(sz - pos).toNat - k - 1, by omega⟩
  have hf2 : (sz - pos).toNat - (k + 1) = f := by omega
  rw [hf] at hr; subst hy; rw [← hr, hf2]; symm; show (if _ then _ else _) = _; rw [if_neg (by rw [hb]; simp), if_neg (by rw [hl]; simp)]
theorem rec_end (hk : ¬ pos + (k : Int) < sz) (hr : recB X num pos ((sz - pos).toNat - k) k g acc = r) : r = recN := by
  have hf : (sz - pos).toNat - k = 0 := by omega
  rw [hf] at hr; rw [← hr]; rfl
end
theorem getB_snoc (l : List (BitVec 8)) (c : BitVec 8) : getB (l ++ [c]) = (getB l <<< 8) ||| BitVec.setWidth 64 c := by unfold getB; rw [List.foldl_append]; rfl
theorem getB2_lt {l : List (BitVec 8)} (h : l.length ≤ 2) : (getB l).toNat < 65536 := by
  match l, h with
  | [], _ => decide
  | [a], _ =>
    have : getB [a] = ((0#64 <<< 8) ||| BitVec.setWidth 64 a) := rfl
    rw [this]; simp only [BitVec.zero_shiftLeft, BitVec.zero_or, BitVec.toNat_setWidth]
    have := a.isLt; omega
  | [a, b], _ =>
    have : getB [a, b] = ((((0#64 <<< 8) ||| BitVec.setWidth 64 a) <<< 8) ||| BitVec.setWidth 64 b) := rfl
    rw [this]; simp only [BitVec.zero_shiftLeft, BitVec.zero_or, BitVec.toNat_or, BitVec.toNat_shiftLeft, BitVec.toNat_setWidth]
    have ha := a.isLt; have hb := b.isLt
    refine Nat.or_lt_two_pow (n := 16) ?_ ?_
    · rw [Nat.shiftLeft_eq]; omega
    · omega
theorem take2_lt (y : List (BitVec 8)) (i : Nat) : (getB ((y.drop i).take 2)).toNat < 65536 := getB2_lt (by simp; omega)
theorem andn_lt {x m : BitVec 64} (h : x.toNat < 65536) : (x &&& m).toNat < 65536 := by rw [BitVec.toNat_and]; exact Nat.lt_of_le_of_lt Nat.and_le_left h
/-- A half: its generation, its records, the first block behind them. -/
structure HalfT where
  gen : BitVec 64
  recs : List (List (BitVec 8))
  at_ : Int
def loopH (Q : BitVec 64 → BitVec 64 → Int → RecT) : Nat → HalfT → BitVec 64 → RecT → HalfT
  | 0, h, _, _ => h
  | f + 1, h, g, q => if q.ok = true then loopH Q f ⟨g, h.recs ++ [q.b], q.next⟩ g (Q g (BitVec.ofInt 64 ((h.recs.length : Int) + 1)) q.next) else h
def readH (ls : List (List (BitVec 8))) (ps : List WriteT) (fr0 sz : Int) : HalfT := loopH (fun g n p => recF ls ps fr0 sz g n p) (sz.toNat + 1) ⟨0#64, [], 0⟩ (recF ls ps fr0 sz 0#64 (BitVec.ofInt 64 (0 : Int)) (0 : Int)).of_ (recF ls ps fr0 sz 0#64 (BitVec.ofInt 64 (0 : Int)) (0 : Int))
section
variable {X : Int → List (BitVec 8)} {num : BitVec 64} {pos : Int}
theorem recB_next : ∀ (f i : Nat) (g : BitVec 64) (acc : List (BitVec 8)), (recB X num pos f i g acc).ok = true → pos + (i : Int) + 1 ≤ (recB X num pos f i g acc).next ∧ (recB X num pos f i g acc).next ≤ pos + (i : Int) + (f : Int)
  | 0, _, _, _, h => by cases h
  | f + 1, i, g, acc, h => by
    unfold recB at h ⊢
    by_cases hb : badB (X (i : Int)) (genF g (X (i : Int))) num i = true
    · rw [if_pos hb] at h; cases h
    · rw [if_neg hb] at h ⊢
      by_cases hl : lastP (X (i : Int)) = true
      · rw [if_pos hl]; simp only; omega
      · rw [if_neg hl] at h ⊢
        have := recB_next f (i + 1) _ _ h
        push_cast at this ⊢; omega
theorem recF_next {ls : List (List (BitVec 8))} {ps : List WriteT} {fr0 sz : Int} {g : BitVec 64} (h0 : 0 ≤ pos ∧ pos ≤ sz) (h : (recF ls ps fr0 sz g num pos).ok = true) : pos + 1 ≤ (recF ls ps fr0 sz g num pos).next ∧ (recF ls ps fr0 sz g num pos).next ≤ sz := by
  unfold recF at h ⊢
  have := recB_next _ _ _ _ h
  omega
end
theorem loopH_S {Q : BitVec 64 → BitVec 64 → Int → RecT} {f k : Nat} {h r : HalfT} {g : BitVec 64} {q : RecT} (hk : k < f) (hq : q.ok = true) (hr : loopH Q (f - k) h g q = r) : loopH Q (f - (k + 1)) ⟨g, h.recs ++ [q.b], q.next⟩ g (Q g (BitVec.ofInt 64 ((h.recs.length : Int) + 1)) q.next) = r := by
  obtain ⟨e, he⟩ : ∃ e, f - k = e + 1 := ⟨f - k - 1, by omega⟩
  have he2 : f - (k + 1) = e := by omega
  rw [he] at hr; rw [← hr, he2]; symm; show (if _ then _ else _) = _; rw [if_pos hq]
theorem loopH_end {Q : BitVec 64 → BitVec 64 → Int → RecT} {f : Nat} {h r : HalfT} {g : BitVec 64} {q : RecT} (hq : q.ok = false) (hr : loopH Q f h g q = r) : r = h := by
  rw [← hr]
  cases f with
  | zero => rfl
  | succ f => show (if _ then _ else _) = _; rw [if_neg (by rw [hq]; simp)]
def okm (v : Value) : Nat := match v with | .bool true => 1 | _ => 0
theorem okm_t : okm (bl true) = 1 := rfl
theorem okm_f : okm (bl false) = 0 := rfl
theorem meas_ok {v7' v7 v6' v6 : Value} {b : Bool} {n m s : Int} (e7' : v7' = bl b) (e6' : v6' = i64 n) (e7 : v7 = bl true) (e6 : v6 = i64 m) (hm : m ≤ s) (h : b = true → m < n) :
    okm v7' * (s + 1 - RowKit.intOf v6').toNat < okm v7 * (s + 1 - RowKit.intOf v6).toNat := by
  subst e7' e6' e7 e6
  have e1 : RowKit.intOf (i64 n) = n := rfl
  have e2 : RowKit.intOf (i64 m) = m := rfl
  rw [e1, e2, okm_t]
  cases b with
  | true => rw [okm_t]; have := h rfl; omega
  | false => rw [okm_f]; omega
attribute [local irreducible] crashB crashK pushB readB inB errB cutN seenW
attribute [local irreducible] markB putB getB getK partB placeF blkOf rawB writeK blocksN
attribute [local irreducible] mostK newB roomB
attribute [local irreducible] recB recF recN genF badB lastP dataB gOf rOf pOf nOf loopH readH
set_option maxHeartbeats 2000000 in
theorem c_jrecord (bh : Nat) (fr0 sz : Int) (gx : BitVec 64) (vr : Value) (hx : Int) (bd : Nat) (vl : Value) (ls : List (List (BitVec 8))) (vp : Value) (ps : List WriteT) (ge : BitVec 64) (ni pos : Int) (w0 : World)  (hh : blks w0 bh = some (.cells #[i64 fr0, i64 sz, u64 gx, vr, i64 hx] 97 (0, 0))) (hd : blks w0 bd = some (.cells #[vl, vp] 94 (0, 0))) (hrl : RdK (blks w0) (encA u8) 64 vl ls) (hrp : RdK (blks w0) encW 65 vp ps) (hll : ls.length ≤ 65536) (hpl : ps.length ≤ 1048576) (hfr : 0 ≤ fr0 ∧ fr0 ≤ 1048576) (hsz : sz ≤ 1048576) (hps : 0 ≤ pos ∧ pos ≤ sz) : CallsR Try.prog 70 #[(ptr bh 0), (ptr bd 0), (u64 ge), (i64 ni), (i64 pos)] w0 (fun r w1 => ∃ r1 Hs, r = .tuple #[r1, u64 (recF ls ps fr0 sz ge (BitVec.ofInt 64 ni) pos).of_, i64 (recF ls ps fr0 sz ge (BitVec.ofInt 64 ni) pos).next, bl (recF ls ps fr0 sz ge (BitVec.ofInt 64 ni) pos).ok] ∧ Grow u8 5 r1 (recF ls ps fr0 sz ge (BitVec.ofInt 64 ni) pos).b Hs ∧ Mem w1 (restOf w0) Hs) := by
 refine callsR_of_cw (args := [(ptr bh 0), (ptr bd 0), (u64 ge), (i64 ni), (i64 pos)]) Try.func70 rfl Try.ntmps70 Try.results70 rfl ?_
 have hm0 : Mem w0 (restOf w0) [] := Mem.of_world w0
 refine sR <| rw_q rfl (ev_assign (v := (Value.slice none 0 0)) rfl) <| rw_q rfl (ev_assign (v := (u64 0#64)) rfl) <| rw_q rfl (ev_assign (v := (i64 0)) rfl) <| rw_q rfl (ev_assign (v := (bl false)) rfl) ?_
 refine rN (cw_seq (sR ?_))
 refine rw_q rfl (ev_assign (v := (i64 0)) rfl) ?_
 refine rN (cw_block ?_)
 refine cw_loop (fun g wv => ∃ (k : Nat) (gk : BitVec 64) (vk : Value) (ak : List (BitVec 8)) (Hk : List (Nat × Obj)), ((k : Int) ≤ sz - pos) ∧ (recB (fun i => readB ls ps (fr0 + pos + i)) (BitVec.ofInt 64 ni) pos ((sz - pos).toNat - k) k gk ak = (recF ls ps fr0 sz ge (BitVec.ofInt 64 ni) pos)) ∧ (ak.length ≤ 42 * k) ∧ (Grow u8 5 vk ak Hk) ∧ g 0 = (ptr bh 0) ∧ g 1 = (ptr bd 0) ∧ g 2 = (u64 gk) ∧ g 3 = (i64 ni) ∧ g 4 = (i64 pos) ∧ g 10 = vk ∧ g 14 = (i64 (k : Int)) ∧ Mem wv (restOf w0) (Hk ++ ([]))) (fun g wv => (sz - pos - RowKit.intOf (g 14)).toNat) ?_ ?_
 · exact ⟨0, ge, (Value.slice none 0 0), [], [], oM, (by unfold recF; rfl), (Nat.zero_le _), (Grow.none u8 5), rfl, rfl, rfl, rfl, rfl, rfl, rfl, hm0⟩
 · rintro fr1 w2 ⟨k, gk, vk, ak, Hk, hk, hrec, hak, gk1, s0, s1, s2, s3, s4, s10, s14, hm2⟩
   have z2 := s2
   have z10 := s10
   have z14 := s14
   refine cw_seq (sR ?_)
   refine rM rfl s4 <| rM rfl s14 <| rw_q rfl (ev_i64_add rfl rfl oM oM) <| rM rfl s0 <| rw_q rfl (ev_nilCheck rfl) <| rw_q rfl (ev_fa (r := 1) uT97 rfl (by first | rfl | omega) ti3 rfl rfl) ?_
   refine rw_q (v := (i64 sz)) rfl (ev_load1 uT3 rfl rfl (hm2.rest _ _ hh) rfl) <| rw_q rfl (ev_i64_lss rfl rfl) <| rN ?_
   refine cw_cond rfl (fun hc3 => ?_) (fun hc3 => ?_)
   · -- true
     have hc3p := of_decide_eq_true hc3
     have hrl64 := readB_len hrl hrp (n := fr0 + pos + (k : Int))
     refine cw_skip (kThen_normal (cw_seq (cw_block (sR ?_))))
     refine rM rfl s1 <| rM rfl s0 <| rw_q rfl (ev_nilCheck rfl) <| rw_q rfl (ev_fa (r := 0) uT97 rfl (by first | rfl | omega) ti3 rfl rfl) <| rw_q (v := (i64 fr0)) rfl (ev_load1 uT3 rfl rfl (hm2.rest _ _ hh) rfl) <| rM rfl s4 ?_
     refine rw_q rfl (ev_i64_add rfl rfl oM oM) <| rM rfl s14 <| rw_q rfl (ev_i64_add rfl rfl oM oM) <| rw_c rfl (opR_call Try.func55 bd55 nm55 (args2 rfl rfl) (c_dread bd vl ls vp ps ((fr0 + pos) + (k : Int)) _ (hm2.rest _ _ hd) (RdK.ofRest hrl hm2) (RdK.ofRest hrp hm2) sL sL)) ?_
     rintro _ w4 ⟨rfl, _ew4⟩
     have hm4 := hm2.ext _ew4
     refine rM rfl rfl <| rw_q (v := (agg u8 (readB ls ps ((fr0 + pos) + (k : Int))))) rfl (ev_extract rfl rfl) <| rw_q (v := (i64 (errB ls ((fr0 + pos) + (k : Int))))) rfl (ev_extract rfl rfl) <| rw_c rfl (or_alloc_agg hm4 ti83) ?_
     rintro _ w6 ⟨b15, rfl, _ew6, hm6⟩
     refine rw_n (or_store_agg (f := u8) (l := readB ls ps ((fr0 + pos) + (k : Int))) u8_one ti83 rfl rfl sL hm6.h0 (by rw [size_cl]; first | omega | (simp only [List.length_set, List.length_append, List.length_replicate, List.length_map, List.length_cons, List.length_nil]; omega) | (simp; done) | (simp; omega) | decide) rfl) ?_
     rintro _ w7 uq7
     have hm7 := hm6.upd0 uq7
     obtain ⟨y8, hy8⟩ : ∃ q, q = readB ls ps ((fr0 + pos) + (k : Int)) := ⟨_, rfl⟩
     have hy8l : y8.length = 64 := by rw [hy8]; exact readB_len hrl hrp
     have hm9 : Mem w7 (restOf w0) ([(b15, .cells (cl u8 y8) 83 (0, 0))] ++ (Hk ++ ([]))) := by rw [hy8]; exact hm7
     have hp8 := take2_lt y8 8; have hn10 := take2_lt y8 10; have hpm := andn_lt (m := ~~~32768#64) hp8
     refine rw_q rfl (ev_assign (v := (i64 (errB ls ((fr0 + pos) + (k : Int))))) rfl) <| rN ?_
     refine CW.abs (fun g => g 0 = (ptr bh 0) ∧ g 1 = (ptr bd 0) ∧ g 2 = (u64 gk) ∧ g 3 = (i64 ni) ∧ g 4 = (i64 pos) ∧ g 10 = vk ∧ g 14 = (i64 (k : Int)) ∧ g 15 = (ptr b15 0) ∧ g 27 = (bl (decide ((pos + (k : Int)) < sz))) ∧ True) ⟨s0, s1, s2, s3, s4, s10, s14, rfl, rfl, trivial⟩ ?_
     rintro fr10 ⟨s0, s1, s2, s3, s4, s10, s14, s15, s27, _⟩
     refine cw_seq <| cw_draw [(0, false), (1, false), (2, false), (3, false), (4, false), (5, false), (6, false), (7, true)] 8 (by kernel_rfl) <| dw_q rfl rfl (fun _ _hx => ev_slice_sla (i := 0) (j := 4) uT83 ti5 s15 (optI_none _ _) (optI_some (k := .i64) (i := 4) rfl) oM sL sL) <| dw_x (v := (u64 (getB ((y8.drop 0).take 4)))) rfl rfl (fun w11 _ew11 => OpR.mono (opR_call Try.func84 bd84 nm84 (args1 rfl) (c_jget (sla b15 0 1 0 4 64) ((y8.drop 0).take 4) _ (Rd.cast (l' := (y8.drop 0).take 4) (Rd.sla (hm9.ext _ew11).h0 sL oM sL sL) rfl) sL)) (by rintro _ w12 ⟨rfl, _ew12⟩; exact ⟨rfl, _ew12⟩)) <| dw_q rfl rfl (fun _ _hx => ev_slice_sla (i := 4) (j := 8) uT83 ti5 s15 (optI_some (k := .i64) (i := 4) rfl) (optI_some (k := .i64) (i := 8) rfl) oM sL sL) <| dw_x (v := (u64 (getB ((y8.drop 4).take 4)))) rfl rfl (fun w14 _ew14 => OpR.mono (opR_call Try.func84 bd84 nm84 (args1 rfl) (c_jget (sla b15 0 1 4 8 64) ((y8.drop 4).take 4) _ (Rd.cast (l' := (y8.drop 4).take 4) (Rd.sla (hm9.ext _ew14).h0 sL oM sL sL) rfl) sL)) (by rintro _ w15 ⟨rfl, _ew15⟩; exact ⟨rfl, _ew15⟩)) ?_
     refine dw_q rfl rfl (fun _ _hx => ev_slice_sla (i := 8) (j := 10) uT83 ti5 s15 (optI_some (k := .i64) (i := 8) rfl) (optI_some (k := .i64) (i := 10) rfl) oM sL sL) <| dw_x (v := (u64 (getB ((y8.drop 8).take 2)))) rfl rfl (fun w17 _ew17 => OpR.mono (opR_call Try.func84 bd84 nm84 (args1 rfl) (c_jget (sla b15 0 1 8 10 64) ((y8.drop 8).take 2) _ (Rd.cast (l' := (y8.drop 8).take 2) (Rd.sla (hm9.ext _ew17).h0 sL oM sL sL) rfl) sL)) (by rintro _ w18 ⟨rfl, _ew18⟩; exact ⟨rfl, _ew18⟩)) <| dw_q rfl rfl (fun _ _hx => ev_build_pt (c := #[(u64 (getB ((y8.drop 0).take 4))), (u64 (getB ((y8.drop 4).take 4))), (u64 (getB ((y8.drop 8).take 2)))]) (pl := [(0, 1), (1, 1), (2, 1)]) ti145 uT145 (by kernel_rfl) (pm_cons (i := 0) (v := (u64 (getB ((y8.drop 0).take 4)))) (cs := #[(u64 (getB ((y8.drop 0).take 4)))]) rfl rfl (pm_cons (i := 1) (v := (u64 (getB ((y8.drop 4).take 4)))) (cs := #[(u64 (getB ((y8.drop 4).take 4)))]) rfl rfl (pm_cons (i := 2) (v := (u64 (getB ((y8.drop 8).take 2)))) (cs := #[(u64 (getB ((y8.drop 8).take 2)))]) rfl rfl pm_nil))) (by kernel_rfl)) ?_
     refine dw_c rfl rfl (fun w20 _ew20 => ?_)
     have hm20 := hm9.ext _ew20
     refine OpR.mono (or_allocX hm20 ti145) ?_
     rintro _ w21 ⟨b17, rfl, _ew21, hm21⟩
     refine ⟨_ew21, ?_⟩
     refine dw_nil (fun w22 _ew22 => ?_)
     have hm22 := hm21.ext _ew22
     refine rw_n (or_storeW (cs := #[(u64 (getB ((y8.drop 0).take 4))), (u64 (getB ((y8.drop 4).take 4))), (u64 (getB ((y8.drop 8).take 2)))]) ti145 rfl rfl (by kernel_rfl) (one_arr (one_cons (u64_one _) (one_cons (u64_one _) (one_cons (u64_one _) one_nil)))) hm22.h0 (by kernel_rfl) rfl) ?_
     rintro _ w23 uq23
     have hm23 : Mem w23 (restOf w0) ([(b17, .cells #[(u64 (getB ((y8.drop 0).take 4))), (u64 (getB ((y8.drop 4).take 4))), (u64 (getB ((y8.drop 8).take 2)))] 145 (0, 0)), (b15, .cells (cl u8 y8) 83 (0, 0))] ++ (Hk ++ ([]))) := hm22.upd0 uq23
     refine rN (sR ?_)
     refine rw_q rfl (ev_slice_sla (i := 10) (j := 12) uT83 ti5 s15 (optI_some (k := .i64) (i := 10) rfl) (optI_some (k := .i64) (i := 12) rfl) oM sL sL) <| rw_c rfl (opR_call Try.func84 bd84 nm84 (args1 rfl) (c_jget (sla b15 0 1 10 12 64) ((y8.drop 10).take 2) _ (Rd.cast (l' := (y8.drop 10).take 2) (Rd.sla hm23.h1 sL oM sL sL) rfl) sL)) ?_
     rintro _ w24 ⟨rfl, _ew24⟩
     have hm24 := hm23.ext _ew24
     refine rw_q rfl (ev_conv_u64_i64 ⟨_, uT95⟩ uT3 rfl oM) <| rw_q rfl (ev_assign (v := (i64 ((getB ((y8.drop 10).take 2)).toNat : Int))) rfl) ?_
     refine rN (sR ?_)
     refine rw_q rfl (ev_fa (r := 2) uT145 rfl (by first | rfl | omega) ti95 rfl rfl) <| rw_q (v := (u64 (getB ((y8.drop 8).take 2)))) rfl (ev_load1 uT95 rfl rfl hm24.h0 rfl) <| rw_q rfl (ev_u64_and (b := 32768#64) rfl rfl) <| rw_q rfl (ev_u64_neq (b := 0#64) rfl rfl) <| rw_q rfl (ev_assign (v := (bl (((getB ((y8.drop 8).take 2)) &&& 32768#64) != 0#64))) rfl) <| rN ?_
     refine CW.abs (fun g => g 0 = (ptr bh 0) ∧ g 1 = (ptr bd 0) ∧ g 2 = (u64 gk) ∧ g 3 = (i64 ni) ∧ g 4 = (i64 pos) ∧ g 10 = vk ∧ g 14 = (i64 (k : Int)) ∧ g 15 = (ptr b15 0) ∧ g 17 = (ptr b17 0) ∧ g 18 = (i64 ((getB ((y8.drop 10).take 2)).toNat : Int)) ∧ g 19 = (bl (((getB ((y8.drop 8).take 2)) &&& 32768#64) != 0#64)) ∧ g 27 = (bl (decide ((pos + (k : Int)) < sz))) ∧ True) ⟨s0, s1, s2, s3, s4, s10, s14, s15, rfl, rfl, rfl, s27, trivial⟩ ?_
     rintro fr26 ⟨s0, s1, s2, s3, s4, s10, s14, s15, s17, s18, s19, s27, _⟩
     refine cw_seq (sR ?_)
     refine rM rfl s2 <| rw_q rfl (ev_u64_eql (b := 0#64) rfl rfl) <| rN ?_
     refine cw_meet (J := fun g wv => g 0 = (ptr bh 0) ∧ g 1 = (ptr bd 0) ∧ g 2 = (u64 (genF gk y8)) ∧ g 3 = (i64 ni) ∧ g 4 = (i64 pos) ∧ g 10 = vk ∧ g 14 = (i64 (k : Int)) ∧ g 15 = (ptr b15 0) ∧ g 17 = (ptr b17 0) ∧ g 18 = (i64 ((getB ((y8.drop 10).take 2)).toNat : Int)) ∧ g 19 = (bl (((getB ((y8.drop 8).take 2)) &&& 32768#64) != 0#64)) ∧ g 27 = (bl (decide ((pos + (k : Int)) < sz))) ∧ g 58 = (bl (gk == 0#64)) ∧ Mem wv (restOf w0) ([(b17, .cells #[(u64 (getB ((y8.drop 0).take 4))), (u64 (getB ((y8.drop 4).take 4))), (u64 (getB ((y8.drop 8).take 2)))] 145 (0, 0)), (b15, .cells (cl u8 y8) 83 (0, 0))] ++ (Hk ++ ([])))) ?_ ?_
     · skip
       refine cw_cond rfl (fun hc27 => ?_) (fun hc27 => ?_)
       · -- true
         have hc27p := eq_of_beq hc27
         refine cw_region <| rw_q rfl (ev_fa (r := 0) uT145 rfl (by first | rfl | omega) ti95 rfl s17) <| rw_q (v := (u64 (getB ((y8.drop 0).take 4)))) rfl (ev_load1 uT95 rfl rfl hm24.h0 rfl) <| rw_q rfl (ev_assign (v := (u64 (getB ((y8.drop 0).take 4)))) rfl) <| rN ?_
         exact ⟨s0, s1, (Eq.trans rfl (congrArg u64 (genF_t hc27))), s3, s4, s10, s14, s15, s17, s18, s19, s27, rfl, hm24⟩
       · -- false
         have hc27p := ne_of_beq_false hc27
         refine cw_skip (kThen_normal ?_)
         exact ⟨s0, s1, (Eq.trans s2 (congrArg u64 (genF_f hc27))), s3, s4, s10, s14, s15, s17, s18, s19, s27, rfl, hm24⟩
     · rintro fr28 w29 ⟨s0, s1, s2, s3, s4, s10, s14, s15, s17, s18, s19, s27, s58, hm29⟩
       refine cw_seq (cw_seq ?_)
       refine cw_draw [(0, false), (1, false), (2, false), (3, false), (4, false), (5, false), (6, false), (7, false), (8, false), (9, false), (10, false), (11, false), (12, false), (13, false), (14, false), (15, false), (16, false), (17, false), (18, false), (19, false), (20, false), (21, false), (22, false), (23, false), (24, false), (25, false), (26, false)] 27 (by kernel_rfl) <| dw_q rfl rfl (fun _ _hx => ev_slice_sla (i := 0) (j := 10) uT83 ti5 s15 (optI_none _ _) (optI_some (k := .i64) (i := 10) rfl) oM sL sL) <| dw_q rfl rfl (fun _ _hx => ev_slice_sla (i := 54) (j := 64) uT83 ti5 s15 (optI_some (k := .i64) (i := 54) rfl) (optI_none _ _) oM sL sL) <| dw_x (v := (bl (((y8.drop 0).take 10) == ((y8.drop 54).take 10)))) rfl rfl (fun w30 _ew30 => OpR.mono (opR_call Try.func85 bd85 nm85 (args2 rfl rfl) (c_beq (sla b15 0 1 0 10 64) (sla b15 0 1 54 64 64) ((y8.drop 0).take 10) ((y8.drop 54).take 10) _ (Rd.cast (l' := (y8.drop 0).take 10) (Rd.sla (hm29.ext _ew30).h1 sL oM sL sL) rfl) (Rd.cast (l' := (y8.drop 54).take 10) (Rd.sla (hm29.ext _ew30).h1 sL oM sL sL) rfl))) (by rintro _ w31 ⟨rfl, _ew31⟩; exact ⟨rfl, _ew31⟩)) <| dw_q rfl rfl (fun _ _hx => ev_not rfl) <| dw_q rfl rfl (fun _ _hx => ev_move (v := (bl (!(((y8.drop 0).take 10) == ((y8.drop 54).take 10))))) rfl) ?_
       rcases Bool.eq_false_or_eq_true (!(((y8.drop 0).take 10) == ((y8.drop 54).take 10))) with hb33 | hb33
       · -- true
         have hb33n : (((y8.drop 0).take 10) == ((y8.drop 54).take 10)) = false := by simpa using hb33
         have hb33p := ne_of_beq_false hb33n
         refine dw_gqn (s := 65) rfl rfl rfl hb33 rfl <| dw_gqn (s := 65) rfl rfl rfl hb33 rfl <| dw_gqn (s := 65) rfl rfl rfl hb33 rfl <| dw_gqn (s := 65) rfl rfl rfl hb33 rfl <| dw_q rfl rfl (fun _ _hx => ev_pick_tk rfl hb33 rfl) <| dw_q rfl rfl (fun _ _hx => ev_move (v := (bl true)) rfl) ?_
         refine dw_gqn (s := 71) rfl rfl rfl rfl rfl <| dw_gqn (s := 71) rfl rfl rfl rfl rfl <| dw_q rfl rfl (fun _ _hx => ev_pick_t rfl rfl) <| dw_q rfl rfl (fun _ _hx => ev_move (v := (bl true)) rfl) <| dw_gqn (s := 75) rfl rfl rfl rfl rfl <| dw_gqn (s := 75) rfl rfl rfl rfl rfl ?_
         refine dw_gqn (s := 75) rfl rfl rfl rfl rfl <| dw_gqn (s := 75) rfl rfl rfl rfl rfl <| dw_gqn (s := 75) rfl rfl rfl rfl rfl <| dw_q rfl rfl (fun _ _hx => ev_pick_t rfl rfl) <| dw_q rfl rfl (fun _ _hx => ev_move (v := (bl true)) rfl) <| dw_gqn (s := 82) rfl rfl rfl rfl rfl ?_
         refine dw_gqn (s := 82) rfl rfl rfl rfl rfl <| dw_gqn (s := 82) rfl rfl rfl rfl rfl <| dw_gqn (s := 82) rfl rfl rfl rfl rfl <| dw_gqn (s := 82) rfl rfl rfl rfl rfl ?_
         refine dw_nil (fun w34 _ew34 => ?_)
         have hm34 := hm29.ext _ew34
         refine rw_gn (s := 82) rfl rfl rfl rfl <| rw_q rfl (ev_pick_t rfl rfl) <| rw_q rfl (ev_move (v := (bl true)) rfl) <| rw_gn (s := 90) rfl rfl rfl rfl <| rw_gn (s := 90) rfl rfl rfl rfl <| rw_q rfl (ev_pick_t rfl rfl) ?_
         refine rw_q rfl (ev_move (v := (bl true)) rfl) <| rw_gn (s := 94) rfl rfl rfl rfl <| rw_gn (s := 94) rfl rfl rfl rfl <| rw_gn (s := 94) rfl rfl rfl rfl <| rw_gu (s := 97) rfl rfl rfl <| rw_gu (s := 97) rfl rfl rfl ?_
         refine rw_gn (s := 94) rfl rfl rfl rfl <| rw_q rfl (ev_pick_t rfl rfl) <| rN ?_
         refine CW.abs (fun g => g 0 = (ptr bh 0) ∧ g 1 = (ptr bd 0) ∧ g 2 = (u64 (genF gk y8)) ∧ g 3 = (i64 ni) ∧ g 4 = (i64 pos) ∧ g 10 = vk ∧ g 14 = (i64 (k : Int)) ∧ g 15 = (ptr b15 0) ∧ g 17 = (ptr b17 0) ∧ g 18 = (i64 ((getB ((y8.drop 10).take 2)).toNat : Int)) ∧ g 19 = (bl (((getB ((y8.drop 8).take 2)) &&& 32768#64) != 0#64)) ∧ g 27 = (bl (decide ((pos + (k : Int)) < sz))) ∧ g 58 = (bl (gk == 0#64)) ∧ g 101 = (bl true) ∧ True) ⟨s0, s1, s2, s3, s4, s10, s14, s15, s17, s18, s19, s27, s58, rfl, trivial⟩ ?_
         rintro fr35 ⟨s0, s1, s2, s3, s4, s10, s14, s15, s17, s18, s19, s27, s58, s101, _⟩
         refine cw_cond_t s101 (by decide) <| sR <| rw_q rfl (ev_assign (v := (Value.slice none 0 0)) rfl) <| rw_q rfl (ev_assign (v := (u64 0#64)) rfl) <| rw_q rfl (ev_assign (v := (i64 0)) rfl) <| rw_q rfl (ev_assign (v := (bl false)) rfl) ?_
         refine rN (cw_ret ?_)
         refine kThen_ret (kBlk_ret (kThen_ret (kBlk_ret ?_)))
         refine fnPost_ret [(Value.slice none 0 0), (u64 0#64), (i64 0), (bl false)] ⟨rfl, rfl, rfl, rfl, trivial⟩ ?_
         have hbad : badB y8 (genF gk y8) (BitVec.ofInt 64 ni) k = true := by
           unfold badB lastP gOf rOf pOf nOf; simp only [hb33, Bool.true_or, Bool.or_true, Bool.false_or, Bool.or_false, Bool.not_true, Bool.not_false, Bool.and_true, Bool.true_and, Bool.and_false, Bool.false_and]
         have hz := rec_bad oM hy8 hbad hrec
         have hm36 := Mem.drop ([(b17, .cells #[(u64 (getB ((y8.drop 0).take 4))), (u64 (getB ((y8.drop 4).take 4))), (u64 (getB ((y8.drop 8).take 2)))] 145 (0, 0))]) _ hm34
         have hm37 := Mem.drop ([(b15, .cells (cl u8 y8) 83 (0, 0))]) _ hm36
         have hm38 := Mem.drop Hk _ hm37
         rw [hz]
         exact ⟨.slice none 0 0, [], (by unfold recN; rfl), (by unfold recN; exact Grow.none u8 5), hm38⟩
       · -- false
         have hb33n : (((y8.drop 0).take 10) == ((y8.drop 54).take 10)) = true := by simpa using hb33
         have hb33p := eq_of_beq hb33n
         refine dw_gqy (s := 65) rfl rfl rfl hb33 rfl (fun _ _hx => ev_fa (r := 0) uT145 rfl (by first | rfl | omega) ti95 rfl s17) <| dw_gqy (s := 65) rfl rfl rfl hb33 rfl (fun _ _hx => ev_load1 uT95 rfl rfl (hm29.ext _hx).h0 rfl) <| dw_gqy (s := 65) rfl rfl rfl hb33 rfl (fun _ _hx => ev_move s2) <| dw_gqy (s := 65) rfl rfl rfl hb33 rfl (fun _ _hx => ev_u64_neq rfl rfl) <| dw_q rfl rfl (fun _ _hx => ev_pick_fk rfl hb33 rfl) <| dw_q rfl rfl (fun _ _hx => ev_move (v := (bl ((getB ((y8.drop 0).take 4)) != (genF gk y8)))) rfl) ?_
         rcases Bool.eq_false_or_eq_true ((getB ((y8.drop 0).take 4)) != (genF gk y8)) with hb39 | hb39
         · -- true
           have hb39p := bne_iff_ne.1 hb39
           refine dw_gqn (s := 71) rfl rfl rfl hb39 rfl <| dw_gqn (s := 71) rfl rfl rfl hb39 rfl <| dw_q rfl rfl (fun _ _hx => ev_pick_tk rfl hb39 rfl) <| dw_q rfl rfl (fun _ _hx => ev_move (v := (bl true)) rfl) <| dw_gqn (s := 75) rfl rfl rfl rfl rfl <| dw_gqn (s := 75) rfl rfl rfl rfl rfl ?_
           refine dw_gqn (s := 75) rfl rfl rfl rfl rfl <| dw_gqn (s := 75) rfl rfl rfl rfl rfl <| dw_gqn (s := 75) rfl rfl rfl rfl rfl <| dw_q rfl rfl (fun _ _hx => ev_pick_t rfl rfl) <| dw_q rfl rfl (fun _ _hx => ev_move (v := (bl true)) rfl) <| dw_gqn (s := 82) rfl rfl rfl rfl rfl ?_
           refine dw_gqn (s := 82) rfl rfl rfl rfl rfl <| dw_gqn (s := 82) rfl rfl rfl rfl rfl <| dw_gqn (s := 82) rfl rfl rfl rfl rfl <| dw_gqn (s := 82) rfl rfl rfl rfl rfl ?_
           refine dw_nil (fun w40 _ew40 => ?_)
           have hm40 := hm29.ext _ew40
           refine rw_gn (s := 82) rfl rfl rfl rfl <| rw_q rfl (ev_pick_t rfl rfl) <| rw_q rfl (ev_move (v := (bl true)) rfl) <| rw_gn (s := 90) rfl rfl rfl rfl <| rw_gn (s := 90) rfl rfl rfl rfl <| rw_q rfl (ev_pick_t rfl rfl) ?_
           refine rw_q rfl (ev_move (v := (bl true)) rfl) <| rw_gn (s := 94) rfl rfl rfl rfl <| rw_gn (s := 94) rfl rfl rfl rfl <| rw_gn (s := 94) rfl rfl rfl rfl <| rw_gu (s := 97) rfl rfl rfl <| rw_gu (s := 97) rfl rfl rfl ?_
           refine rw_gn (s := 94) rfl rfl rfl rfl <| rw_q rfl (ev_pick_t rfl rfl) <| rN ?_
           refine CW.abs (fun g => g 0 = (ptr bh 0) ∧ g 1 = (ptr bd 0) ∧ g 2 = (u64 (genF gk y8)) ∧ g 3 = (i64 ni) ∧ g 4 = (i64 pos) ∧ g 10 = vk ∧ g 14 = (i64 (k : Int)) ∧ g 15 = (ptr b15 0) ∧ g 17 = (ptr b17 0) ∧ g 18 = (i64 ((getB ((y8.drop 10).take 2)).toNat : Int)) ∧ g 19 = (bl (((getB ((y8.drop 8).take 2)) &&& 32768#64) != 0#64)) ∧ g 27 = (bl (decide ((pos + (k : Int)) < sz))) ∧ g 58 = (bl (gk == 0#64)) ∧ g 101 = (bl true) ∧ True) ⟨s0, s1, s2, s3, s4, s10, s14, s15, s17, s18, s19, s27, s58, rfl, trivial⟩ ?_
           rintro fr41 ⟨s0, s1, s2, s3, s4, s10, s14, s15, s17, s18, s19, s27, s58, s101, _⟩
           refine cw_cond_t s101 (by decide) <| sR <| rw_q rfl (ev_assign (v := (Value.slice none 0 0)) rfl) <| rw_q rfl (ev_assign (v := (u64 0#64)) rfl) <| rw_q rfl (ev_assign (v := (i64 0)) rfl) <| rw_q rfl (ev_assign (v := (bl false)) rfl) ?_
           refine rN (cw_ret ?_)
           refine kThen_ret (kBlk_ret (kThen_ret (kBlk_ret ?_)))
           refine fnPost_ret [(Value.slice none 0 0), (u64 0#64), (i64 0), (bl false)] ⟨rfl, rfl, rfl, rfl, trivial⟩ ?_
           have hbad : badB y8 (genF gk y8) (BitVec.ofInt 64 ni) k = true := by
             unfold badB lastP gOf rOf pOf nOf; simp only [hb33, hb39, Bool.true_or, Bool.or_true, Bool.false_or, Bool.or_false, Bool.not_true, Bool.not_false, Bool.and_true, Bool.true_and, Bool.and_false, Bool.false_and]
           have hz := rec_bad oM hy8 hbad hrec
           have hm42 := Mem.drop ([(b17, .cells #[(u64 (getB ((y8.drop 0).take 4))), (u64 (getB ((y8.drop 4).take 4))), (u64 (getB ((y8.drop 8).take 2)))] 145 (0, 0))]) _ hm40
           have hm43 := Mem.drop ([(b15, .cells (cl u8 y8) 83 (0, 0))]) _ hm42
           have hm44 := Mem.drop Hk _ hm43
           rw [hz]
           exact ⟨.slice none 0 0, [], (by unfold recN; rfl), (by unfold recN; exact Grow.none u8 5), hm44⟩
         · -- false
           have hb39p := eq_of_bne_false hb39
           refine dw_gqy (s := 71) rfl rfl rfl hb39 rfl (fun _ _hx => ev_move s2) <| dw_gqy (s := 71) rfl rfl rfl hb39 rfl (fun _ _hx => ev_u64_eql (b := 0#64) rfl rfl) <| dw_q rfl rfl (fun _ _hx => ev_pick_fk rfl hb39 rfl) <| dw_q rfl rfl (fun _ _hx => ev_move (v := (bl ((genF gk y8) == 0#64))) rfl) ?_
           rcases Bool.eq_false_or_eq_true ((genF gk y8) == 0#64) with hb45 | hb45
           · -- true
             have hb45p := eq_of_beq hb45
             refine dw_gqn (s := 75) rfl rfl rfl hb45 rfl <| dw_gqn (s := 75) rfl rfl rfl hb45 rfl <| dw_gqn (s := 75) rfl rfl rfl hb45 rfl <| dw_gqn (s := 75) rfl rfl rfl hb45 rfl <| dw_gqn (s := 75) rfl rfl rfl hb45 rfl <| dw_q rfl rfl (fun _ _hx => ev_pick_tk rfl hb45 rfl) ?_
             refine dw_q rfl rfl (fun _ _hx => ev_move (v := (bl true)) rfl) <| dw_gqn (s := 82) rfl rfl rfl rfl rfl <| dw_gqn (s := 82) rfl rfl rfl rfl rfl <| dw_gqn (s := 82) rfl rfl rfl rfl rfl <| dw_gqn (s := 82) rfl rfl rfl rfl rfl <| dw_gqn (s := 82) rfl rfl rfl rfl rfl ?_
             refine dw_nil (fun w46 _ew46 => ?_)
             have hm46 := hm29.ext _ew46
             refine rw_gn (s := 82) rfl rfl rfl rfl <| rw_q rfl (ev_pick_t rfl rfl) <| rw_q rfl (ev_move (v := (bl true)) rfl) <| rw_gn (s := 90) rfl rfl rfl rfl <| rw_gn (s := 90) rfl rfl rfl rfl <| rw_q rfl (ev_pick_t rfl rfl) ?_
             refine rw_q rfl (ev_move (v := (bl true)) rfl) <| rw_gn (s := 94) rfl rfl rfl rfl <| rw_gn (s := 94) rfl rfl rfl rfl <| rw_gn (s := 94) rfl rfl rfl rfl <| rw_gu (s := 97) rfl rfl rfl <| rw_gu (s := 97) rfl rfl rfl ?_
             refine rw_gn (s := 94) rfl rfl rfl rfl <| rw_q rfl (ev_pick_t rfl rfl) <| rN ?_
             refine CW.abs (fun g => g 0 = (ptr bh 0) ∧ g 1 = (ptr bd 0) ∧ g 2 = (u64 (genF gk y8)) ∧ g 3 = (i64 ni) ∧ g 4 = (i64 pos) ∧ g 10 = vk ∧ g 14 = (i64 (k : Int)) ∧ g 15 = (ptr b15 0) ∧ g 17 = (ptr b17 0) ∧ g 18 = (i64 ((getB ((y8.drop 10).take 2)).toNat : Int)) ∧ g 19 = (bl (((getB ((y8.drop 8).take 2)) &&& 32768#64) != 0#64)) ∧ g 27 = (bl (decide ((pos + (k : Int)) < sz))) ∧ g 58 = (bl (gk == 0#64)) ∧ g 101 = (bl true) ∧ True) ⟨s0, s1, s2, s3, s4, s10, s14, s15, s17, s18, s19, s27, s58, rfl, trivial⟩ ?_
             rintro fr47 ⟨s0, s1, s2, s3, s4, s10, s14, s15, s17, s18, s19, s27, s58, s101, _⟩
             refine cw_cond_t s101 (by decide) <| sR <| rw_q rfl (ev_assign (v := (Value.slice none 0 0)) rfl) <| rw_q rfl (ev_assign (v := (u64 0#64)) rfl) <| rw_q rfl (ev_assign (v := (i64 0)) rfl) <| rw_q rfl (ev_assign (v := (bl false)) rfl) ?_
             refine rN (cw_ret ?_)
             refine kThen_ret (kBlk_ret (kThen_ret (kBlk_ret ?_)))
             refine fnPost_ret [(Value.slice none 0 0), (u64 0#64), (i64 0), (bl false)] ⟨rfl, rfl, rfl, rfl, trivial⟩ ?_
             have hbad : badB y8 (genF gk y8) (BitVec.ofInt 64 ni) k = true := by
               unfold badB lastP gOf rOf pOf nOf; simp only [hb33, hb39, hb45, Bool.true_or, Bool.or_true, Bool.false_or, Bool.or_false, Bool.not_true, Bool.not_false, Bool.and_true, Bool.true_and, Bool.and_false, Bool.false_and]
             have hz := rec_bad oM hy8 hbad hrec
             have hm48 := Mem.drop ([(b17, .cells #[(u64 (getB ((y8.drop 0).take 4))), (u64 (getB ((y8.drop 4).take 4))), (u64 (getB ((y8.drop 8).take 2)))] 145 (0, 0))]) _ hm46
             have hm49 := Mem.drop ([(b15, .cells (cl u8 y8) 83 (0, 0))]) _ hm48
             have hm50 := Mem.drop Hk _ hm49
             rw [hz]
             exact ⟨.slice none 0 0, [], (by unfold recN; rfl), (by unfold recN; exact Grow.none u8 5), hm50⟩
           · -- false
             have hb45p := ne_of_beq_false hb45
             refine dw_gqy (s := 75) rfl rfl rfl hb45 rfl (fun _ _hx => ev_fa (r := 1) uT145 rfl (by first | rfl | omega) ti95 rfl s17) <| dw_gqy (s := 75) rfl rfl rfl hb45 rfl (fun _ _hx => ev_load1 uT95 rfl rfl (hm29.ext _hx).h0 rfl) <| dw_gqy (s := 75) rfl rfl rfl hb45 rfl (fun _ _hx => ev_move s3) <| dw_gqy (s := 75) rfl rfl rfl hb45 rfl (fun _ _hx => ev_conv_i64_u64 ⟨_, uT3⟩ uT95 rfl) <| dw_gqy (s := 75) rfl rfl rfl hb45 rfl (fun _ _hx => ev_u64_neq rfl rfl) <| dw_q rfl rfl (fun _ _hx => ev_pick_fk rfl hb45 rfl) ?_
             refine dw_q rfl rfl (fun _ _hx => ev_move (v := (bl ((getB ((y8.drop 4).take 4)) != (BitVec.ofInt 64 ni)))) rfl) ?_
             rcases Bool.eq_false_or_eq_true ((getB ((y8.drop 4).take 4)) != (BitVec.ofInt 64 ni)) with hb51 | hb51
             · -- true
               have hb51p := bne_iff_ne.1 hb51
               refine dw_gqn (s := 82) rfl rfl rfl hb51 rfl <| dw_gqn (s := 82) rfl rfl rfl hb51 rfl <| dw_gqn (s := 82) rfl rfl rfl hb51 rfl <| dw_gqn (s := 82) rfl rfl rfl hb51 rfl <| dw_gqn (s := 82) rfl rfl rfl hb51 rfl ?_
               refine dw_nil (fun w52 _ew52 => ?_)
               have hm52 := hm29.ext _ew52
               refine rw_gn (s := 82) rfl rfl hb51 rfl <| rw_q rfl (ev_pick_tk rfl hb51 rfl) <| rw_q rfl (ev_move (v := (bl true)) rfl) <| rw_gn (s := 90) rfl rfl rfl rfl <| rw_gn (s := 90) rfl rfl rfl rfl <| rw_q rfl (ev_pick_t rfl rfl) ?_
               refine rw_q rfl (ev_move (v := (bl true)) rfl) <| rw_gn (s := 94) rfl rfl rfl rfl <| rw_gn (s := 94) rfl rfl rfl rfl <| rw_gn (s := 94) rfl rfl rfl rfl <| rw_gu (s := 97) rfl rfl rfl <| rw_gu (s := 97) rfl rfl rfl ?_
               refine rw_gn (s := 94) rfl rfl rfl rfl <| rw_q rfl (ev_pick_t rfl rfl) <| rN ?_
               refine CW.abs (fun g => g 0 = (ptr bh 0) ∧ g 1 = (ptr bd 0) ∧ g 2 = (u64 (genF gk y8)) ∧ g 3 = (i64 ni) ∧ g 4 = (i64 pos) ∧ g 10 = vk ∧ g 14 = (i64 (k : Int)) ∧ g 15 = (ptr b15 0) ∧ g 17 = (ptr b17 0) ∧ g 18 = (i64 ((getB ((y8.drop 10).take 2)).toNat : Int)) ∧ g 19 = (bl (((getB ((y8.drop 8).take 2)) &&& 32768#64) != 0#64)) ∧ g 27 = (bl (decide ((pos + (k : Int)) < sz))) ∧ g 58 = (bl (gk == 0#64)) ∧ g 101 = (bl true) ∧ True) ⟨s0, s1, s2, s3, s4, s10, s14, s15, s17, s18, s19, s27, s58, rfl, trivial⟩ ?_
               rintro fr53 ⟨s0, s1, s2, s3, s4, s10, s14, s15, s17, s18, s19, s27, s58, s101, _⟩
               refine cw_cond_t s101 (by decide) <| sR <| rw_q rfl (ev_assign (v := (Value.slice none 0 0)) rfl) <| rw_q rfl (ev_assign (v := (u64 0#64)) rfl) <| rw_q rfl (ev_assign (v := (i64 0)) rfl) <| rw_q rfl (ev_assign (v := (bl false)) rfl) ?_
               refine rN (cw_ret ?_)
               refine kThen_ret (kBlk_ret (kThen_ret (kBlk_ret ?_)))
               refine fnPost_ret [(Value.slice none 0 0), (u64 0#64), (i64 0), (bl false)] ⟨rfl, rfl, rfl, rfl, trivial⟩ ?_
               have hbad : badB y8 (genF gk y8) (BitVec.ofInt 64 ni) k = true := by
                 unfold badB lastP gOf rOf pOf nOf; simp only [hb33, hb39, hb45, hb51, Bool.true_or, Bool.or_true, Bool.false_or, Bool.or_false, Bool.not_true, Bool.not_false, Bool.and_true, Bool.true_and, Bool.and_false, Bool.false_and]
               have hz := rec_bad oM hy8 hbad hrec
               have hm54 := Mem.drop ([(b17, .cells #[(u64 (getB ((y8.drop 0).take 4))), (u64 (getB ((y8.drop 4).take 4))), (u64 (getB ((y8.drop 8).take 2)))] 145 (0, 0))]) _ hm52
               have hm55 := Mem.drop ([(b15, .cells (cl u8 y8) 83 (0, 0))]) _ hm54
               have hm56 := Mem.drop Hk _ hm55
               rw [hz]
               exact ⟨.slice none 0 0, [], (by unfold recN; rfl), (by unfold recN; exact Grow.none u8 5), hm56⟩
             · -- false
               have hb51p := eq_of_bne_false hb51
               refine dw_gqy (s := 82) rfl rfl rfl hb51 rfl (fun _ _hx => ev_fa (r := 2) uT145 rfl (by first | rfl | omega) ti95 rfl s17) <| dw_gqy (s := 82) rfl rfl rfl hb51 rfl (fun _ _hx => ev_load1 uT95 rfl rfl (hm29.ext _hx).h0 rfl) <| dw_gqy (s := 82) rfl rfl rfl hb51 rfl (fun _ _hx => ev_u64_andNot (b := 32768#64) rfl rfl) <| dw_gqy (s := 82) rfl rfl rfl hb51 rfl (fun _ _hx => ev_conv_u64_i64 ⟨_, uT95⟩ uT3 rfl oM) <| dw_gqy (s := 82) rfl rfl rfl hb51 rfl (fun _ _hx => ev_move s14) ?_
               refine dw_nil (fun w57 _ew57 => ?_)
               have hm57 := hm29.ext _ew57
               refine rw_gyq (s := 82) rfl rfl hb51 rfl (ev_i64_neq rfl rfl) <| rw_q rfl (ev_pick_fk rfl hb51 rfl) <| rw_q rfl (ev_move (v := (bl ((((getB ((y8.drop 8).take 2)) &&& ~~~32768#64).toNat : Int) != (k : Int)))) rfl) ?_
               rcases Bool.eq_false_or_eq_true ((((getB ((y8.drop 8).take 2)) &&& ~~~32768#64).toNat : Int) != (k : Int)) with hb58 | hb58
               · -- true
                 have hb58p := bne_iff_ne.1 hb58
                 refine rw_gn (s := 90) rfl rfl hb58 rfl <| rw_gn (s := 90) rfl rfl hb58 rfl <| rw_q rfl (ev_pick_tk rfl hb58 rfl) <| rw_q rfl (ev_move (v := (bl true)) rfl) <| rw_gn (s := 94) rfl rfl rfl rfl <| rw_gn (s := 94) rfl rfl rfl rfl ?_
                 refine rw_gn (s := 94) rfl rfl rfl rfl <| rw_gu (s := 97) rfl rfl rfl <| rw_gu (s := 97) rfl rfl rfl <| rw_gn (s := 94) rfl rfl rfl rfl <| rw_q rfl (ev_pick_t rfl rfl) <| rN ?_
                 refine CW.abs (fun g => g 0 = (ptr bh 0) ∧ g 1 = (ptr bd 0) ∧ g 2 = (u64 (genF gk y8)) ∧ g 3 = (i64 ni) ∧ g 4 = (i64 pos) ∧ g 10 = vk ∧ g 14 = (i64 (k : Int)) ∧ g 15 = (ptr b15 0) ∧ g 17 = (ptr b17 0) ∧ g 18 = (i64 ((getB ((y8.drop 10).take 2)).toNat : Int)) ∧ g 19 = (bl (((getB ((y8.drop 8).take 2)) &&& 32768#64) != 0#64)) ∧ g 27 = (bl (decide ((pos + (k : Int)) < sz))) ∧ g 58 = (bl (gk == 0#64)) ∧ g 101 = (bl true) ∧ True) ⟨s0, s1, s2, s3, s4, s10, s14, s15, s17, s18, s19, s27, s58, rfl, trivial⟩ ?_
                 rintro fr59 ⟨s0, s1, s2, s3, s4, s10, s14, s15, s17, s18, s19, s27, s58, s101, _⟩
                 refine cw_cond_t s101 (by decide) <| sR <| rw_q rfl (ev_assign (v := (Value.slice none 0 0)) rfl) <| rw_q rfl (ev_assign (v := (u64 0#64)) rfl) <| rw_q rfl (ev_assign (v := (i64 0)) rfl) <| rw_q rfl (ev_assign (v := (bl false)) rfl) ?_
                 refine rN (cw_ret ?_)
                 refine kThen_ret (kBlk_ret (kThen_ret (kBlk_ret ?_)))
                 refine fnPost_ret [(Value.slice none 0 0), (u64 0#64), (i64 0), (bl false)] ⟨rfl, rfl, rfl, rfl, trivial⟩ ?_
                 have hbad : badB y8 (genF gk y8) (BitVec.ofInt 64 ni) k = true := by
                   unfold badB lastP gOf rOf pOf nOf; simp only [hb33, hb39, hb45, hb51, hb58, Bool.true_or, Bool.or_true, Bool.false_or, Bool.or_false, Bool.not_true, Bool.not_false, Bool.and_true, Bool.true_and, Bool.and_false, Bool.false_and]
                 have hz := rec_bad oM hy8 hbad hrec
                 have hm60 := Mem.drop ([(b17, .cells #[(u64 (getB ((y8.drop 0).take 4))), (u64 (getB ((y8.drop 4).take 4))), (u64 (getB ((y8.drop 8).take 2)))] 145 (0, 0))]) _ hm57
                 have hm61 := Mem.drop ([(b15, .cells (cl u8 y8) 83 (0, 0))]) _ hm60
                 have hm62 := Mem.drop Hk _ hm61
                 rw [hz]
                 exact ⟨.slice none 0 0, [], (by unfold recN; rfl), (by unfold recN; exact Grow.none u8 5), hm62⟩
               · -- false
                 have hb58p := eq_of_bne_false hb58
                 refine rw_gyq (s := 90) rfl rfl hb58 rfl (ev_move s18) <| rw_gyq (s := 90) rfl rfl hb58 rfl (ev_i64_gtr (b := 42) rfl rfl) <| rw_q rfl (ev_pick_fk rfl hb58 rfl) <| rw_q rfl (ev_move (v := (bl (decide (42 < ((getB ((y8.drop 10).take 2)).toNat : Int))))) rfl) ?_
                 rcases Bool.eq_false_or_eq_true (decide (42 < ((getB ((y8.drop 10).take 2)).toNat : Int))) with hb63 | hb63
                 · -- true
                   have hb63p := of_decide_eq_true hb63
                   refine rw_gn (s := 94) rfl rfl hb63 rfl <| rw_gn (s := 94) rfl rfl hb63 rfl <| rw_gn (s := 94) rfl rfl hb63 rfl <| rw_gu (s := 97) rfl rfl rfl <| rw_gu (s := 97) rfl rfl rfl <| rw_gn (s := 94) rfl rfl hb63 rfl ?_
                   refine rw_q rfl (ev_pick_tk rfl hb63 rfl) <| rN ?_
                   refine CW.abs (fun g => g 0 = (ptr bh 0) ∧ g 1 = (ptr bd 0) ∧ g 2 = (u64 (genF gk y8)) ∧ g 3 = (i64 ni) ∧ g 4 = (i64 pos) ∧ g 10 = vk ∧ g 14 = (i64 (k : Int)) ∧ g 15 = (ptr b15 0) ∧ g 17 = (ptr b17 0) ∧ g 18 = (i64 ((getB ((y8.drop 10).take 2)).toNat : Int)) ∧ g 19 = (bl (((getB ((y8.drop 8).take 2)) &&& 32768#64) != 0#64)) ∧ g 27 = (bl (decide ((pos + (k : Int)) < sz))) ∧ g 58 = (bl (gk == 0#64)) ∧ g 101 = (bl true) ∧ True) ⟨s0, s1, s2, s3, s4, s10, s14, s15, s17, s18, s19, s27, s58, rfl, trivial⟩ ?_
                   rintro fr64 ⟨s0, s1, s2, s3, s4, s10, s14, s15, s17, s18, s19, s27, s58, s101, _⟩
                   refine cw_cond_t s101 (by decide) <| sR <| rw_q rfl (ev_assign (v := (Value.slice none 0 0)) rfl) <| rw_q rfl (ev_assign (v := (u64 0#64)) rfl) <| rw_q rfl (ev_assign (v := (i64 0)) rfl) <| rw_q rfl (ev_assign (v := (bl false)) rfl) ?_
                   refine rN (cw_ret ?_)
                   refine kThen_ret (kBlk_ret (kThen_ret (kBlk_ret ?_)))
                   refine fnPost_ret [(Value.slice none 0 0), (u64 0#64), (i64 0), (bl false)] ⟨rfl, rfl, rfl, rfl, trivial⟩ ?_
                   have hbad : badB y8 (genF gk y8) (BitVec.ofInt 64 ni) k = true := by
                     unfold badB lastP gOf rOf pOf nOf; simp only [hb33, hb39, hb45, hb51, hb58, hb63, Bool.true_or, Bool.or_true, Bool.false_or, Bool.or_false, Bool.not_true, Bool.not_false, Bool.and_true, Bool.true_and, Bool.and_false, Bool.false_and]
                   have hz := rec_bad oM hy8 hbad hrec
                   have hm65 := Mem.drop ([(b17, .cells #[(u64 (getB ((y8.drop 0).take 4))), (u64 (getB ((y8.drop 4).take 4))), (u64 (getB ((y8.drop 8).take 2)))] 145 (0, 0))]) _ hm57
                   have hm66 := Mem.drop ([(b15, .cells (cl u8 y8) 83 (0, 0))]) _ hm65
                   have hm67 := Mem.drop Hk _ hm66
                   rw [hz]
                   exact ⟨.slice none 0 0, [], (by unfold recN; rfl), (by unfold recN; exact Grow.none u8 5), hm67⟩
                 · -- false
                   have hb63p := of_decide_eq_false hb63
                   refine rw_gyq (s := 94) rfl rfl hb63 rfl (ev_move s19) <| rw_gyq (s := 94) rfl rfl hb63 rfl (ev_not rfl) <| rw_gyq (s := 94) rfl rfl hb63 rfl (ev_move (v := (bl (!(((getB ((y8.drop 8).take 2)) &&& 32768#64) != 0#64)))) rfl) ?_
                   rcases Bool.eq_false_or_eq_true (!(((getB ((y8.drop 8).take 2)) &&& 32768#64) != 0#64)) with hb68 | hb68
                   · -- true
                     have hb68n : (((getB ((y8.drop 8).take 2)) &&& 32768#64) != 0#64) = false := by simpa using hb68
                     have hb68p := eq_of_bne_false hb68n
                     refine rw_gyq (s := 97) rfl rfl hb68 rfl (ev_move s18) <| rw_gyq (s := 97) rfl rfl hb68 rfl (ev_i64_lss (b := 42) rfl rfl) <| rw_gyq (s := 94) rfl rfl hb63 rfl (ev_pick_tk rfl hb68 rfl) <| rw_q rfl (ev_pick_fk rfl hb63 rfl) <| rN ?_
                     refine CW.abs (fun g => g 0 = (ptr bh 0) ∧ g 1 = (ptr bd 0) ∧ g 2 = (u64 (genF gk y8)) ∧ g 3 = (i64 ni) ∧ g 4 = (i64 pos) ∧ g 10 = vk ∧ g 14 = (i64 (k : Int)) ∧ g 15 = (ptr b15 0) ∧ g 17 = (ptr b17 0) ∧ g 18 = (i64 ((getB ((y8.drop 10).take 2)).toNat : Int)) ∧ g 19 = (bl (((getB ((y8.drop 8).take 2)) &&& 32768#64) != 0#64)) ∧ g 27 = (bl (decide ((pos + (k : Int)) < sz))) ∧ g 58 = (bl (gk == 0#64)) ∧ g 101 = (bl (decide (((getB ((y8.drop 10).take 2)).toNat : Int) < 42))) ∧ True) ⟨s0, s1, s2, s3, s4, s10, s14, s15, s17, s18, s19, s27, s58, rfl, trivial⟩ ?_
                     rintro fr69 ⟨s0, s1, s2, s3, s4, s10, s14, s15, s17, s18, s19, s27, s58, s101, _⟩
                     refine cw_cond s101 (fun hc70 => ?_) (fun hc70 => ?_)
                     · -- true
                       have hc70p := of_decide_eq_true hc70
                       refine sR <| rw_q rfl (ev_assign (v := (Value.slice none 0 0)) rfl) <| rw_q rfl (ev_assign (v := (u64 0#64)) rfl) <| rw_q rfl (ev_assign (v := (i64 0)) rfl) <| rw_q rfl (ev_assign (v := (bl false)) rfl) ?_
                       refine rN (cw_ret ?_)
                       refine kThen_ret (kBlk_ret (kThen_ret (kBlk_ret ?_)))
                       refine fnPost_ret [(Value.slice none 0 0), (u64 0#64), (i64 0), (bl false)] ⟨rfl, rfl, rfl, rfl, trivial⟩ ?_
                       have hbad : badB y8 (genF gk y8) (BitVec.ofInt 64 ni) k = true := by
                         unfold badB lastP gOf rOf pOf nOf; simp only [hb33, hb39, hb45, hb51, hb58, hb63, hb68, hc70, Bool.true_or, Bool.or_true, Bool.false_or, Bool.or_false, Bool.not_true, Bool.not_false, Bool.and_true, Bool.true_and, Bool.and_false, Bool.false_and]
                       have hz := rec_bad oM hy8 hbad hrec
                       have hm71 := Mem.drop ([(b17, .cells #[(u64 (getB ((y8.drop 0).take 4))), (u64 (getB ((y8.drop 4).take 4))), (u64 (getB ((y8.drop 8).take 2)))] 145 (0, 0))]) _ hm57
                       have hm72 := Mem.drop ([(b15, .cells (cl u8 y8) 83 (0, 0))]) _ hm71
                       have hm73 := Mem.drop Hk _ hm72
                       rw [hz]
                       exact ⟨.slice none 0 0, [], (by unfold recN; rfl), (by unfold recN; exact Grow.none u8 5), hm73⟩
                     · -- false
                       have hc70p := of_decide_eq_false hc70
                       refine cw_skip (kThen_normal (sR ?_))
                       refine rM rfl s10 <| rM rfl s18 <| rw_q rfl (ev_i64_add (a := 12) rfl rfl oM oM) <| rw_q rfl (ev_slice_sla (i := 12) (j := 12 + ((getB ((y8.drop 10).take 2)).toNat : Int)) uT83 ti5 s15 (optI_some (k := .i64) (i := 12) rfl) (optI_some (k := .i64) (i := 12 + ((getB ((y8.drop 10).take 2)).toNat : Int)) rfl) oM sL sL) <| rw_c rfl (or_append (f := u8) (Hs := Hk) (H := [(b17, .cells #[(u64 (getB ((y8.drop 0).take 4))), (u64 (getB ((y8.drop 4).take 4))), (u64 (getB ((y8.drop 8).take 2)))] 145 (0, 0)), (b15, .cells (cl u8 y8) 83 (0, 0))]) (Mem.pick [_, _] Hk _ hm57) gk1 rfl rfl (Rd.cast (l' := (y8.drop (12 : Int).toNat).take ((12 + ((getB ((y8.drop 10).take 2)).toNat : Int) : Int).toNat - (12 : Int).toNat)) (Rd.sla hm57.h1 sL oM sL sL) rfl) uT23 uT23 ti5 rfl u8_one sL sL) ?_
                       rintro sv74 w74 ⟨Hs74, hm74, g74⟩
                       replace g74 : Grow u8 5 sv74 (ak ++ ((y8.drop (12 : Int).toNat).take ((12 + ((getB ((y8.drop 10).take 2)).toNat : Int) : Int).toNat - (12 : Int).toNat))) Hs74 := g74
                       refine rA rfl (v := sv74) rfl ?_
                       refine rN (sR ?_)
                       refine rM rfl s19 <| rN ?_
                       have hd75 : (((getB ((y8.drop 8).take 2)) &&& 32768#64) != 0#64) = false := by have h := congrArg Bool.not hb68; rw [Bool.not_not] at h; exact h
                       refine cw_cond_f rfl hd75 ?_
                       refine cw_skip (kBlk_normal (cw_region ?_))
                       refine rM rfl s14 <| rw_q rfl (ev_i64_add (b := 1) rfl rfl oM oM) <| rw_q rfl (ev_assign (v := (i64 ((k : Int) + 1))) rfl) <| rN ?_
                       have hbad : badB y8 (genF gk y8) (BitVec.ofInt 64 ni) k = false := by
                         unfold badB lastP gOf rOf pOf nOf; simp only [hb33, hb39, hb45, hb51, hb58, hb63, hb68, hc70, hd75, Bool.true_or, Bool.or_true, Bool.false_or, Bool.or_false, Bool.not_true, Bool.not_false, Bool.and_true, Bool.true_and, Bool.and_false, Bool.false_and]
                       have hm76 := Mem.drop ([(b17, .cells #[(u64 (getB ((y8.drop 0).take 4))), (u64 (getB ((y8.drop 4).take 4))), (u64 (getB ((y8.drop 8).take 2)))] 145 (0, 0))]) _ (Mem.pick Hs74 [_] _ hm74)
                       have hm77 := Mem.drop ([(b15, .cells (cl u8 y8) 83 (0, 0))]) _ (Mem.pick Hs74 [_] _ hm76)
                       exact ⟨⟨(k + 1), (genF gk y8), sv74, (ak ++ dataB y8), Hs74, oM, (rec_more oM hy8 hbad (by unfold lastP pOf; exact hd75) hrec), (by have hdl := congrArg List.length (data_eq (y := y8)); rw [List.length_append, ← hdl]; simp; omega), (Grow.cast g74 (by rw [data_eq])), s0, s1, s2, s3, s4, rfl, rfl, hm77⟩, meas (rfl) z14 oM oM⟩
                   · -- false
                     have hb68n : (((getB ((y8.drop 8).take 2)) &&& 32768#64) != 0#64) = true := by simpa using hb68
                     have hb68p := bne_iff_ne.1 hb68n
                     refine rw_gn (s := 97) rfl rfl hb68 rfl <| rw_gn (s := 97) rfl rfl hb68 rfl <| rw_gyq (s := 94) rfl rfl hb63 rfl (ev_pick_fk rfl hb68 rfl) <| rw_q rfl (ev_pick_fk rfl hb63 rfl) <| rN ?_
                     refine CW.abs (fun g => g 0 = (ptr bh 0) ∧ g 1 = (ptr bd 0) ∧ g 2 = (u64 (genF gk y8)) ∧ g 3 = (i64 ni) ∧ g 4 = (i64 pos) ∧ g 10 = vk ∧ g 14 = (i64 (k : Int)) ∧ g 15 = (ptr b15 0) ∧ g 17 = (ptr b17 0) ∧ g 18 = (i64 ((getB ((y8.drop 10).take 2)).toNat : Int)) ∧ g 19 = (bl (((getB ((y8.drop 8).take 2)) &&& 32768#64) != 0#64)) ∧ g 27 = (bl (decide ((pos + (k : Int)) < sz))) ∧ g 58 = (bl (gk == 0#64)) ∧ g 101 = (bl false) ∧ True) ⟨s0, s1, s2, s3, s4, s10, s14, s15, s17, s18, s19, s27, s58, rfl, trivial⟩ ?_
                     rintro fr78 ⟨s0, s1, s2, s3, s4, s10, s14, s15, s17, s18, s19, s27, s58, s101, _⟩
                     refine cw_cond_f s101 (by decide) ?_
                     refine cw_skip (kThen_normal (sR ?_))
                     refine rM rfl s10 <| rM rfl s18 <| rw_q rfl (ev_i64_add (a := 12) rfl rfl oM oM) <| rw_q rfl (ev_slice_sla (i := 12) (j := 12 + ((getB ((y8.drop 10).take 2)).toNat : Int)) uT83 ti5 s15 (optI_some (k := .i64) (i := 12) rfl) (optI_some (k := .i64) (i := 12 + ((getB ((y8.drop 10).take 2)).toNat : Int)) rfl) oM sL sL) <| rw_c rfl (or_append (f := u8) (Hs := Hk) (H := [(b17, .cells #[(u64 (getB ((y8.drop 0).take 4))), (u64 (getB ((y8.drop 4).take 4))), (u64 (getB ((y8.drop 8).take 2)))] 145 (0, 0)), (b15, .cells (cl u8 y8) 83 (0, 0))]) (Mem.pick [_, _] Hk _ hm57) gk1 rfl rfl (Rd.cast (l' := (y8.drop (12 : Int).toNat).take ((12 + ((getB ((y8.drop 10).take 2)).toNat : Int) : Int).toNat - (12 : Int).toNat)) (Rd.sla hm57.h1 sL oM sL sL) rfl) uT23 uT23 ti5 rfl u8_one sL sL) ?_
                     rintro sv79 w79 ⟨Hs79, hm79, g79⟩
                     replace g79 : Grow u8 5 sv79 (ak ++ ((y8.drop (12 : Int).toNat).take ((12 + ((getB ((y8.drop 10).take 2)).toNat : Int) : Int).toNat - (12 : Int).toNat))) Hs79 := g79
                     refine rA rfl (v := sv79) rfl ?_
                     refine rN (sR ?_)
                     refine rM rfl s19 <| rN ?_
                     have hd80 : (((getB ((y8.drop 8).take 2)) &&& 32768#64) != 0#64) = true := by have h := congrArg Bool.not hb68; rw [Bool.not_not] at h; exact h
                     refine cw_cond_t rfl hd80 <| sR <| rM rfl (v := sv79) rfl <| rM rfl s2 <| rM rfl s4 <| rM rfl s14 ?_
                     refine rw_q rfl (ev_i64_add rfl rfl oM oM) <| rw_q rfl (ev_i64_add (b := 1) rfl rfl oM oM) <| rA rfl (v := sv79) rfl <| rw_q rfl (ev_assign (v := (u64 (genF gk y8))) rfl) <| rw_q rfl (ev_assign (v := (i64 ((pos + (k : Int)) + 1))) rfl) <| rw_q rfl (ev_assign (v := (bl true)) rfl) ?_
                     refine rN ?_
                     refine CW.abs (fun g => g 0 = (ptr bh 0) ∧ g 1 = (ptr bd 0) ∧ g 2 = (u64 (genF gk y8)) ∧ g 3 = (i64 ni) ∧ g 4 = (i64 pos) ∧ g 10 = sv79 ∧ g 11 = (u64 (genF gk y8)) ∧ g 12 = (i64 ((pos + (k : Int)) + 1)) ∧ g 13 = (bl true) ∧ g 14 = (i64 (k : Int)) ∧ g 15 = (ptr b15 0) ∧ g 17 = (ptr b17 0) ∧ g 18 = (i64 ((getB ((y8.drop 10).take 2)).toNat : Int)) ∧ g 19 = (bl (((getB ((y8.drop 8).take 2)) &&& 32768#64) != 0#64)) ∧ g 27 = (bl (decide ((pos + (k : Int)) < sz))) ∧ g 58 = (bl (gk == 0#64)) ∧ g 101 = (bl false) ∧ g 107 = (bl (((getB ((y8.drop 8).take 2)) &&& 32768#64) != 0#64)) ∧ True) ⟨s0, s1, s2, s3, s4, rfl, rfl, rfl, rfl, s14, s15, s17, s18, s19, s27, s58, s101, rfl, trivial⟩ ?_
                     rintro fr81 ⟨s0, s1, s2, s3, s4, s10, s11, s12, s13, s14, s15, s17, s18, s19, s27, s58, s101, s107, _⟩
                     refine cw_ret ?_
                     refine kBlk_ret (kThen_ret (kBlk_ret ?_))
                     refine fnPost_ret [sv79, (u64 (genF gk y8)), (i64 ((pos + (k : Int)) + 1)), (bl true)] ⟨s10, s11, s12, s13, trivial⟩ ?_
                     have hbad : badB y8 (genF gk y8) (BitVec.ofInt 64 ni) k = false := by
                       unfold badB lastP gOf rOf pOf nOf; simp only [hb33, hb39, hb45, hb51, hb58, hb63, hb68, hd80, Bool.true_or, Bool.or_true, Bool.false_or, Bool.or_false, Bool.not_true, Bool.not_false, Bool.and_true, Bool.true_and, Bool.and_false, Bool.false_and]
                     have hz := rec_last oM hy8 hbad (by unfold lastP pOf; exact hd80) hrec
                     have hm82 := Mem.drop ([(b17, .cells #[(u64 (getB ((y8.drop 0).take 4))), (u64 (getB ((y8.drop 4).take 4))), (u64 (getB ((y8.drop 8).take 2)))] 145 (0, 0))]) _ (Mem.pick Hs79 [_] _ hm79)
                     have hm83 := Mem.drop ([(b15, .cells (cl u8 y8) 83 (0, 0))]) _ (Mem.pick Hs79 [_] _ hm82)
                     rw [hz]
                     exact ⟨sv79, Hs79, (by rfl), Grow.cast g79 (by rw [data_eq]), by simpa using hm83⟩
   · -- false
     have hc3p := of_decide_eq_false hc3
     refine cw_exit ?_
     refine kThen_exit (kThen_exit (kBlk_hit ?_))
     refine sR <| rw_q rfl (ev_assign (v := (Value.slice none 0 0)) rfl) <| rw_q rfl (ev_assign (v := (u64 0#64)) rfl) <| rw_q rfl (ev_assign (v := (i64 0)) rfl) <| rw_q rfl (ev_assign (v := (bl false)) rfl) ?_
     refine rN (cw_ret ?_)
     refine fnPost_ret [(Value.slice none 0 0), (u64 0#64), (i64 0), (bl false)] ⟨rfl, rfl, rfl, rfl, trivial⟩ ?_
     have hz := rec_end (of_decide_eq_false hc3) hrec
     have hm84 := Mem.drop Hk _ hm2
     rw [hz]
     exact ⟨.slice none 0 0, [], (by unfold recN; rfl), (by unfold recN; exact Grow.none u8 5), hm84⟩

set_option maxHeartbeats 2000000 in
theorem c_jhread (bh : Nat) (fr0 sz : Int) (bd : Nat) (vl : Value) (ls : List (List (BitVec 8))) (vp : Value) (ps : List WriteT) (w0 : World) (R : Rest) (hm0 : Mem w0 R [(bh, .cells #[(i64 fr0), (i64 sz), (u64 0#64), (Value.slice none 0 0), (i64 0)] 97 (0, 0))]) (hd : R.blk bd = some (.cells #[vl, vp] 94 (0, 0))) (hrl : RdK R.blk (encA u8) 64 vl ls) (hrp : RdK R.blk encW 65 vp ps) (hll : ls.length ≤ 65536) (hpl : ps.length ≤ 1048576) (hfr : 0 ≤ fr0 ∧ fr0 ≤ 1048576) (hsz : 0 ≤ sz ∧ sz ≤ 1048576) : CallsR Try.prog 50 #[(ptr bh 0), (ptr bd 0)] w0 (fun r w1 => ∃ vr rs Hr, r = .tuple #[] ∧ rs.map (·.2) = (readH ls ps fr0 sz).recs ∧ rs.length = (readH ls ps fr0 sz).recs.length ∧ GrowL mN 23 vr rs Hr ∧ Mem w1 R ([(bh, .cells #[(i64 fr0), (i64 sz), (u64 ((readH ls ps fr0 sz).gen)), vr, (i64 ((readH ls ps fr0 sz).at_))] 97 (0, 0))] ++ (Hr ++ ([])))) := by
 refine callsR_of_cw (args := [(ptr bh 0), (ptr bd 0)]) Try.func50 rfl Try.ntmps50 Try.results50 rfl <| sR <| rw_q rfl (ev_move (v := (ptr bh 0)) rfl) <| rw_q rfl (ev_move (v := (ptr bd 0)) rfl) <| rw_c rfl (opR_call Try.func70 bd70 nm70 (args5 rfl rfl rfl rfl rfl) (c_jrecord bh fr0 sz 0#64 (Value.slice none 0 0) 0 bd vl ls vp ps 0#64 (0 : Int) (0 : Int) _ hm0.h0 (hm0.rest _ _ hd) (RdK.ofRest hrl hm0) (RdK.ofRest hrp hm0) sL sL sL sL sL)) ?_
 rintro _ w1 ⟨r1q2, Hsq2, rfl, grq2, k_w1⟩
 have hm1 : Mem w1 R (Hsq2 ++ ([(bh, .cells #[(i64 fr0), (i64 sz), (u64 0#64), (Value.slice none 0 0), (i64 0)] 97 (0, 0))])) := Mem.new (H := [(bh, .cells #[(i64 fr0), (i64 sz), (u64 0#64), (Value.slice none 0 0), (i64 0)] 97 (0, 0))]) (H' := Hsq2) hm0 k_w1
 refine rM rfl rfl <| rw_q (v := r1q2) rfl (ev_extract rfl rfl) <| rw_q (v := (u64 ((recF ls ps fr0 sz 0#64 (BitVec.ofInt 64 (0 : Int)) (0 : Int)).of_))) rfl (ev_extract rfl rfl) <| rw_q (v := (i64 ((recF ls ps fr0 sz 0#64 (BitVec.ofInt 64 (0 : Int)) (0 : Int)).next))) rfl (ev_extract rfl rfl) <| rw_q (v := (bl ((recF ls ps fr0 sz 0#64 (BitVec.ofInt 64 (0 : Int)) (0 : Int)).ok))) rfl (ev_extract rfl rfl) <| rA rfl (v := r1q2) rfl ?_
 refine rw_q rfl (ev_assign (v := (u64 ((recF ls ps fr0 sz 0#64 (BitVec.ofInt 64 (0 : Int)) (0 : Int)).of_))) rfl) <| rw_q rfl (ev_assign (v := (i64 ((recF ls ps fr0 sz 0#64 (BitVec.ofInt 64 (0 : Int)) (0 : Int)).next))) rfl) <| rw_q rfl (ev_assign (v := (bl ((recF ls ps fr0 sz 0#64 (BitVec.ofInt 64 (0 : Int)) (0 : Int)).ok))) rfl) ?_
 refine rN (cw_block' ?_)
 refine cw_loop (fun g wv => ∃ (k : Nat) (h : HalfT) (vr1 : Value) (rs1 : List SlT) (Hr1 : List (Nat × Obj)) (gq : BitVec 64) (q : RecT) (vq : Value) (Hq : List (Nat × Obj)), ((k : Int) ≤ h.at_) ∧ (loopH (fun g n p => recF ls ps fr0 sz g n p) (sz.toNat + 1 - k) h gq q = (readH ls ps fr0 sz)) ∧ (rs1.map (·.2) = h.recs) ∧ (rs1.length = k) ∧ (0 ≤ h.at_ ∧ h.at_ ≤ sz) ∧ (q.ok = true → h.at_ + 1 ≤ q.next ∧ q.next ≤ sz) ∧ (GrowL mN 23 vr1 rs1 Hr1) ∧ (Grow u8 5 vq q.b Hq) ∧ g 0 = (ptr bh 0) ∧ g 1 = (ptr bd 0) ∧ g 4 = vq ∧ g 5 = (u64 gq) ∧ g 6 = (i64 q.next) ∧ g 7 = (bl q.ok) ∧ Mem wv R ([(bh, .cells #[(i64 fr0), (i64 sz), (u64 h.gen), vr1, (i64 h.at_)] 97 (0, 0))] ++ (Hr1 ++ (Hq ++ ([]))))) (fun g wv => okm (g 7) * (sz + 1 - RowKit.intOf (g 6)).toNat) ?_ ?_
 have hm3 := (Mem.pick Hsq2 [_] _ hm1)
 · exact ⟨0, ⟨0#64, [], 0⟩, (Value.slice none 0 0), [], [], (recF ls ps fr0 sz 0#64 (BitVec.ofInt 64 (0 : Int)) (0 : Int)).of_, (recF ls ps fr0 sz 0#64 (BitVec.ofInt 64 (0 : Int)) (0 : Int)), r1q2, Hsq2, (by show ((0 : Nat) : Int) ≤ (0 : Int); omega), (by unfold readH; rfl), rfl, rfl, (by show (0 : Int) ≤ 0 ∧ (0 : Int) ≤ sz; omega), (fun h => recF_next (pos := (0 : Int)) oM h), (GrowL.none mN 23), grq2, rfl, rfl, rfl, rfl, rfl, rfl, (by
   have hT := hm3
   try simp only [List.append_assoc, List.cons_append, List.nil_append, List.append_nil] at hT ⊢
   exact hT)⟩
 · rintro fr4 w5 ⟨k, h, vr1, rs1, Hr1, gq, q, vq, Hq, hk, hL, hrs, hrl1, hat, hq, gr1, gq1, s0, s1, s4, s5, s6, s7, hm5⟩
   have z4 := s4
   have z5 := s5
   have z6 := s6
   have z7 := s7
   have hrcl : h.recs.length = k := by rw [← hrs, List.length_map]; exact hrl1
   refine cw_seq (sR ?_)
   refine rM rfl s7 <| rN ?_
   refine cw_cond rfl (fun hc6 => ?_) (fun hc6 => ?_)
   · -- true
     have hqn := hq hc6
     refine cw_skip (kThen_normal (cw_block' (sR ?_)))
     refine rM rfl s0 <| rM rfl s0 <| rM rfl s0 <| rM rfl s5 <| rM rfl s6 <| rM rfl s0 ?_
     refine rw_q rfl (ev_nilCheck rfl) <| rw_q rfl (ev_fa (r := 3) uT97 rfl (by first | rfl | omega) ti22 rfl rfl) <| rw_q (v := vr1) rfl (ev_load1 uT22 rfl rfl hm5.h0 rfl) <| rM rfl s4 <| rw_c rfl (or_buildSlice_ones [vq] (List.all_eq_true.1 (one_cons gq1.one one_nil)) hm5 uT22 ti23 rfl rfl rfl) ?_
     rintro _ w7 ⟨b27, rfl, _ew7, hm7⟩
     have hm7 : Mem w7 R ([(b27, .cells #[vq] 23 (0, 0)), (bh, .cells #[(i64 fr0), (i64 sz), (u64 h.gen), vr1, (i64 h.at_)] 97 (0, 0))] ++ (Hr1 ++ (Hq ++ ([])))) := hm7
     refine rw_c rfl (or_appendL (Hs := Hr1) (Hv := Hq) (H := [(b27, .cells #[vq] 23 (0, 0)), (bh, .cells #[(i64 fr0), (i64 sz), (u64 h.gen), vr1, (i64 h.at_)] 97 (0, 0))]) (u0 := vq) (l0 := q.b) (show Mem _ _ (Hr1 ++ (Hq ++ [(b27, .cells #[vq] 23 (0, 0)), (bh, .cells #[(i64 fr0), (i64 sz), (u64 h.gen), vr1, (i64 h.at_)] 97 (0, 0))])) from (Mem.pick2 Hq [_, _] Hr1 _ (Mem.pick2 [_, _] Hr1 Hq _ hm7))) gr1 rfl rfl (Rd.oneS (l := q.b) hm7.h0 (Grow.toSl q.b gq1)) (Grow.toSl q.b gq1) (el_grow gq1) uT22 uT22 ti23 rfl sL sL) ?_
     rintro sv8 w8 ⟨ls8, Hs8, hM8, hL8, hm8, g8⟩
     refine rw_q rfl (ev_nilCheck rfl) <| rw_q rfl (ev_fa (r := 2) uT97 rfl (by first | rfl | omega) ti95 rfl rfl) <| rw_n (or_store1 ti95 rfl rfl (u64_one _) ((Mem.pick2 Hs8 [_] [_] _ hm8)).h0 (by simp) (.inl (Nat.zero_le _))) ?_
     rintro _ w9 uq9
     have hm9 : Mem w9 R ([(bh, .cells #[(i64 fr0), (i64 sz), (u64 gq), vr1, (i64 h.at_)] 97 (0, 0))] ++ (Hs8 ++ ([(b27, .cells #[vq] 23 (0, 0))]))) := Mem.upd0 (Mem.pick2 Hs8 [_] [_] _ hm8) uq9
     refine rw_q rfl (ev_nilCheck rfl) <| rw_q rfl (ev_fa (r := 4) uT97 rfl (by first | rfl | omega) ti3 rfl rfl) <| rw_n (or_store1 ti3 rfl rfl (i64_one _) hm9.h0 (by simp) (.inl (Nat.zero_le _))) ?_
     rintro _ w10 uq10
     have hm10 : Mem w10 R ([(bh, .cells #[(i64 fr0), (i64 sz), (u64 gq), vr1, (i64 q.next)] 97 (0, 0))] ++ (Hs8 ++ ([(b27, .cells #[vq] 23 (0, 0))]))) := hm9.upd0 uq10
     refine rw_q rfl (ev_nilCheck rfl) <| rw_q rfl (ev_fa (r := 3) uT97 rfl (by first | rfl | omega) ti22 rfl rfl) <| rw_n (or_store1 ti22 rfl rfl g8.one hm10.h0 (by simp) (.inl (Nat.zero_le _))) ?_
     rintro _ w11 uq11
     have hm11 : Mem w11 R ([(bh, .cells #[(i64 fr0), (i64 sz), (u64 gq), sv8, (i64 q.next)] 97 (0, 0))] ++ (Hs8 ++ ([(b27, .cells #[vq] 23 (0, 0))]))) := hm10.upd0 uq11
     refine rN ?_
     have hm12 := Mem.drop ([(b27, .cells #[vq] 23 (0, 0))]) _ (Mem.pick2 [_] Hs8 [_] _ hm11)
     refine CW.abs (fun g => g 0 = (ptr bh 0) ∧ g 1 = (ptr bd 0) ∧ g 4 = vq ∧ g 5 = (u64 gq) ∧ g 6 = (i64 q.next) ∧ g 7 = (bl q.ok) ∧ g 16 = (bl q.ok) ∧ True) ⟨s0, s1, s4, s5, s6, s7, rfl, trivial⟩ ?_
     rintro fr13 ⟨s0, s1, s4, s5, s6, s7, s16, _⟩
     refine cw_draw [(0, false), (1, false), (2, false), (3, false), (4, false), (5, false), (6, false), (7, false), (8, false), (9, false), (10, false), (11, false), (12, true), (13, false), (14, false), (15, false), (16, false), (17, false), (18, false), (19, false)] 20 (by kernel_rfl) <| dM rfl rfl s0 <| dM rfl rfl s1 <| dM rfl rfl s5 <| dM rfl rfl s0 <| dw_q rfl rfl (fun _ _hx => ev_nilCheck rfl) ?_
     refine dw_q rfl rfl (fun _ _hx => ev_fa (r := 3) uT97 rfl (by first | rfl | omega) ti22 rfl rfl) <| dw_q (v := sv8) rfl rfl (fun _ _hx => ev_load1 uT22 rfl rfl (hm12.ext _hx).h0 rfl) <| dw_q (v := (i64 (ls8.length : Int))) rfl rfl (fun _ _hx => ev_len_rd (RdL.row (GrowL.rd g8 (Mem.pick [_] Hs8 _ (hm12.ext _hx)) nN)) uT22 rfl) <| dM rfl rfl s0 <| dw_q rfl rfl (fun _ _hx => ev_nilCheck rfl) <| dw_q rfl rfl (fun _ _hx => ev_fa (r := 4) uT97 rfl (by first | rfl | omega) ti3 rfl rfl) ?_
     refine dw_q (v := (i64 q.next)) rfl rfl (fun _ _hx => ev_load1 uT3 rfl rfl (hm12.ext _hx).h0 rfl) ?_
     refine dw_c rfl rfl (fun w14 _ew14 => ?_)
     have hm14 := hm12.ext _ew14
     refine OpR.mono (opR_call Try.func70 bd70 nm70 (args5 rfl rfl rfl rfl rfl) (c_jrecord bh fr0 sz gq sv8 q.next bd vl ls vp ps gq (ls8.length : Int) q.next _ hm14.h0 (hm14.rest _ _ hd) (RdK.ofRest hrl hm14) (RdK.ofRest hrp hm14) sL sL sL sL sL)) ?_
     rintro _ w15 ⟨r1q16, Hsq16, rfl, grq16, k_w15⟩
     refine ⟨k_w15.toExt, ?_⟩
     have hm15 : Mem w15 R (Hsq16 ++ ([(bh, .cells #[(i64 fr0), (i64 sz), (u64 gq), sv8, (i64 q.next)] 97 (0, 0))] ++ (Hs8 ++ ([])))) := Mem.new (H := [(bh, .cells #[(i64 fr0), (i64 sz), (u64 gq), sv8, (i64 q.next)] 97 (0, 0))] ++ (Hs8 ++ ([]))) (H' := Hsq16) hm14 k_w15
     refine dM rfl rfl rfl <| dw_q (v := r1q16) rfl rfl (fun _ _hx => ev_extract rfl rfl) <| dw_q (v := (u64 ((recF ls ps fr0 sz gq (BitVec.ofInt 64 (ls8.length : Int)) q.next).of_))) rfl rfl (fun _ _hx => ev_extract rfl rfl) <| dw_q (v := (i64 ((recF ls ps fr0 sz gq (BitVec.ofInt 64 (ls8.length : Int)) q.next).next))) rfl rfl (fun _ _hx => ev_extract rfl rfl) <| dw_q (v := (bl ((recF ls ps fr0 sz gq (BitVec.ofInt 64 (ls8.length : Int)) q.next).ok))) rfl rfl (fun _ _hx => ev_extract rfl rfl) <| dw_q rfl rfl (fun _ _hx => ev_assign (v := r1q16) rfl) ?_
     refine dw_q rfl rfl (fun _ _hx => ev_assign (v := (i64 ((recF ls ps fr0 sz gq (BitVec.ofInt 64 (ls8.length : Int)) q.next).next))) rfl) ?_
     refine dw_nil (fun w17 _ew17 => ?_)
     have hm17 := hm15.ext _ew17
     refine rw_q rfl (ev_assign (v := (bl ((recF ls ps fr0 sz gq (BitVec.ofInt 64 (ls8.length : Int)) q.next).ok))) rfl) ?_
     refine rw_nil (kBlk_normal (kThen_normal ?_))
     have hm18 := (Mem.pick2 Hsq16 [_] Hs8 _ hm17)
     have hm19 := (Mem.pick2 Hs8 Hsq16 [_] _ hm18)
     exact ⟨⟨(k + 1), ⟨gq, h.recs ++ [q.b], q.next⟩, sv8, ls8, Hs8, gq, (recF ls ps fr0 sz gq (BitVec.ofInt 64 (ls8.length : Int)) q.next), r1q16, Hsq16, (by show ((k + 1 : Nat) : Int) ≤ q.next; have h1 := hq hc6; omega), (by have hS := loopH_S (k := k) oM hc6 hL; rw [show ((h.recs.length : Int) + 1) = (ls8.length : Int) by omega] at hS; exact hS), (by rw [hM8, hrs]), oM, (by show (0 : Int) ≤ q.next ∧ q.next ≤ sz; have h1 := hq hc6; omega), (fun h9 => recF_next (pos := q.next) (by have h1 := hq hc6; omega) h9), g8, grq16, s0, s1, rfl, s5, rfl, rfl, hm19⟩, (meas_ok rfl rfl (z7.trans (congrArg bl hc6)) z6 (hq hc6).2 (fun h9 => by have h1 := hq hc6; have h2 := recF_next (ls := ls) (ps := ps) (fr0 := fr0) (sz := sz) (pos := q.next) oM h9; omega))⟩
   · -- false
     refine cw_exit ?_
     refine kThen_exit (kThen_exit (kBlk_hit ?_))
     refine fnPost_normal [] trivial ?_
     have hz := loopH_end hc6 hL
     have hm20 := Mem.drop Hq _ (Mem.pick2 [_] Hr1 Hq _ hm5)
     rw [hz]
     exact ⟨vr1, rs1, Hr1, rfl, hrs, oM, gr1, (by
       have hT := hm20
       try simp only [List.append_assoc, List.cons_append, List.nil_append, List.append_nil] at hT ⊢
       exact hT)⟩


end Go.Proofs.Ytfbnhoolkajebaa
