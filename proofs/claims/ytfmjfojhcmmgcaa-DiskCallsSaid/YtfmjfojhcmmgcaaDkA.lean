/- Contracts of the disk: size, copies, a twin. Conditions: none beyond those that each theorem states. -/
import Derived.Test.YtfmjfojhcmmgcaaDk9
namespace Go.Proofs.Ytfmjfojhcmmgcaa
set_option linter.unusedVariables false
set_option linter.unusedSimpArgs false
/-! ### Both disks, plainly -/
def inN (n : Int) : Bool := decide (1 ≤ n) && decide (n ≤ 65536)
theorem inN_t {n : Int} (h : inN n = true) : 1 ≤ n ∧ n ≤ 65536 := by
  unfold inN at h; rw [Bool.and_eq_true] at h; exact ⟨of_decide_eq_true h.1, of_decide_eq_true h.2⟩
theorem inN_f {n : Int} (h : inN n = false) : n < 1 ∨ 65536 < n := by
  unfold inN at h; rw [Bool.and_eq_false_iff] at h
  rcases h with h | h
  · exact .inl (by have := of_decide_eq_false h; omega)
  · exact .inr (by have := of_decide_eq_false h; omega)
theorem read_no {ls : List (List (BitVec 8))} {ps : List WriteT} {n : Int} (h : inB ls n = false) : readB ls ps n = List.replicate 64 0 := by unfold readB; rw [h]; rfl
theorem read_in {ls : List (List (BitVec 8))} {ps : List WriteT} {n : Int} (h : inB ls n = true) : readB ls ps n = seenW ps n (ls.getD n.toNat []) := by unfold readB; rw [h]; rfl
theorem inB_len {ls ss : List (List (BitVec 8))} (h : ss.length = ls.length) (n : Int) : inB ss n = inB ls n := by unfold inB; rw [h]
theorem err_len {ls ss : List (List (BitVec 8))} (h : ss.length = ls.length) (n : Int) : errB ss n = errB ls n := by unfold errB; rw [inB_len h]
theorem seen_nil {n : Int} {d : List (BitVec 8)} : seenW [] n d = d := rfl
theorem seen_snoc {ps : List WriteT} {n m : Int} {b d : List (BitVec 8)} : seenW (ps ++ [⟨m, b⟩]) n d = if m = n then b else seenW ps n d := by
  unfold seenW
  rw [List.reverse_append, List.reverse_cons, List.reverse_nil, List.nil_append, List.singleton_append]
  by_cases h : m = n
  · rw [List.find?_cons_of_pos (by simpa using h), if_pos h]
  · rw [List.find?_cons_of_neg (by simpa using h), if_neg h]
structure RI (ls ss : List (List (BitVec 8))) (ps : List WriteT) : Prop where
  len : ss.length = ls.length
  seen : ∀ i : Int, inB ls i = true → ss.getD i.toNat [] = readB ls ps i
  hat : ∀ i, i < ps.length → 0 ≤ (ps.getD i write0).at_ ∧ (ps.getD i write0).at_ < (ls.length : Int)
theorem ri_new (ls : List (List (BitVec 8))) : RI ls ls [] := ⟨rfl, fun i h => by rw [read_in h]; rfl, fun i h => absurd h (Nat.not_lt_zero i)⟩
theorem ri_cast {ls ls' ss : List (List (BitVec 8))} {ps : List WriteT} (h : RI ls ss ps) (e : ls = ls') : RI ls' ss ps := e ▸ h
theorem ri_write {ls ss : List (List (BitVec 8))} {ps : List WriteT} {n : Int} {b : List (BitVec 8)} (h : RI ls ss ps) : RI ls (setB ss n b) (pushB ls ps n b) := by
  unfold setB pushB
  rw [inB_len h.len]
  cases hin : inB ls n with
  | false => simpa using h
  | true =>
    simp only [if_true]
    have hb := inB_t hin
    refine ⟨by rw [List.length_set]; exact h.len, fun i hi => ?_, fun i hi => ?_⟩
    · have hi2 := inB_t hi
      rw [read_in hi, seen_snoc]
      by_cases e : n = i
      · subst e
        rw [if_pos rfl]
        simp only [List.getD_eq_getElem?_getD]
        rw [List.getElem?_set_self (by have := h.len; omega)]; rfl
      · rw [if_neg e, ← read_in hi, ← h.seen i hi]
        simp only [List.getD_eq_getElem?_getD]
        rw [List.getElem?_set_ne oM]
    · rw [List.length_append] at hi
      rcases Nat.lt_or_ge i ps.length with h1 | h1
      · rw [show (ps ++ [WriteT.mk n b]).getD i write0 = ps.getD i write0 from by simp only [List.getD_eq_getElem?_getD]; rw [List.getElem?_append_left h1]]
        exact h.hat i h1
      · have e : i = ps.length := by simp at hi; omega
        subst e
        rw [show (ps ++ [WriteT.mk n b]).getD ps.length write0 = ⟨n, b⟩ from by simp [List.getD_eq_getElem?_getD]]
        exact hb
theorem map_push_at {ls ss : List (List (BitVec 8))} {ps : List WriteT} {n : Int} {b : List (BitVec 8)} (h : RI ls ss ps) : addB ss n (ps.map WriteT.at_) n = (pushB ls ps n b).map WriteT.at_ := by
  unfold addB pushB; rw [inB_len h.len]; split <;> simp
theorem map_push_b {ls ss : List (List (BitVec 8))} {ps : List WriteT} {n : Int} {b : List (BitVec 8)} (h : RI ls ss ps) : addB ss n (ps.map WriteT.b) b = (pushB ls ps n b).map WriteT.b := by
  unfold addB pushB; rw [inB_len h.len]; split <;> simp
/-- All lasts. -/
theorem sync_seen {ls : List (List (BitVec 8))} {ps : List WriteT} (hl : ∀ i, i < ls.length → (ls.getD i []).length = 64) (hb : ∀ i, i < ps.length → (ps.getD i write0).b.length = 64) (hat : ∀ i, i < ps.length → 0 ≤ (ps.getD i write0).at_ ∧ (ps.getD i write0).at_ < (ls.length : Int)) :
    ∀ k, k ≤ ps.length → ∀ i, i < ls.length → (crashK ls ps [1#8] k).getD i [] = seenW (ps.take k) (i : Int) (ls.getD i []) ∧ ((crashK ls ps [1#8] k).getD i []).length = 64
  | 0, _, i, hi => ⟨rfl, hl i hi⟩
  | k + 1, hk, i, hi => by
    have h1 := hat k oM
    have h2 := hb k oM
    have ih := sync_seen hl hb hat k oM i hi
    have e1 : ps.take (k + 1) = ps.take k ++ [⟨(ps.getD k write0).at_, (ps.getD k write0).b⟩] := by
      show _ = ps.take k ++ [ps.getD k write0]
      rw [List.take_add_one]; simp [List.getD_eq_getElem?_getD, show k < ps.length by omega]
    have e2 : crashK ls ps [1#8] (k + 1) = putW (crashK ls ps [1#8] k) (ps.getD k write0) (cutN (([1#8] : List (BitVec 8)).getD (k % 1) 0)) := rfl
    have e3 : cutN (([1#8] : List (BitVec 8)).getD (k % 1) 0) = 64 := by rw [Nat.mod_one]; rfl
    rw [e2, e3, e1, seen_snoc]
    unfold putW
    by_cases e : (ps.getD k write0).at_ = (i : Int)
    · rw [if_pos e]
      have ea : ((ps.getD k write0).at_).toNat = i := by omega
      rw [ea]
      have e4 : ((crashK ls ps [1#8] k).set i ((ps.getD k write0).b.take 64 ++ ((crashK ls ps [1#8] k).getD i []).drop 64)).getD i [] = (ps.getD k write0).b := by
        rw [List.take_of_length_le oM, List.drop_of_length_le oM, List.append_nil]
        rw [show ∀ l : List (List (BitVec 8)), l.getD i [] = l[i]?.getD [] from fun l => List.getD_eq_getElem?_getD]
        rw [List.getElem?_set_self (by rw [crashK_len]; exact hi)]; rfl
      rw [e4]; exact ⟨rfl, h2⟩
    · rw [if_neg e]
      have e4 : ∀ x : List (BitVec 8), ((crashK ls ps [1#8] k).set ((ps.getD k write0).at_).toNat x).getD i [] = (crashK ls ps [1#8] k).getD i [] := fun x => by
        rw [List.getD_eq_getElem?_getD, List.getElem?_set_ne oM, ← List.getD_eq_getElem?_getD]
      rw [e4]; exact ih
theorem sync_all {ls : List (List (BitVec 8))} {ps : List WriteT} (hl : ∀ i, i < ls.length → (ls.getD i []).length = 64) (hb : ∀ i, i < ps.length → (ps.getD i write0).b.length = 64) (hat : ∀ i, i < ps.length → 0 ≤ (ps.getD i write0).at_ ∧ (ps.getD i write0).at_ < (ls.length : Int)) {i : Int} (hi : inB ls i = true) :
    (crashB ls ps [1#8]).getD i.toNat [] = readB ls ps i := by
  have h := inB_t hi
  have := (sync_seen hl hb hat ps.length (Nat.le_refl _) i.toNat oM).1
  rw [List.take_length, show ((i.toNat : Nat) : Int) = i by omega] at this
  rw [read_in hi]; exact this
theorem sync_eq {ls ss : List (List (BitVec 8))} {ps : List WriteT} (hl : ∀ i, i < ls.length → (ls.getD i []).length = 64) (hb : ∀ i, i < ps.length → (ps.getD i write0).b.length = 64) (h : RI ls ss ps) : ss = crashB ls ps [1#8] := by
  apply List.ext_getElem?
  intro i
  have hlen := crashB_len (ls := ls) (ps := ps) (q := [1#8])
  by_cases hi : i < ls.length
  · have hin : inB ls (i : Int) = true := inB_of oM oM
    have e := (h.seen i hin).trans (sync_all hl hb h.hat hin).symm
    simp only [Int.toNat_natCast, List.getD_eq_getElem?_getD] at e
    have h1 : i < ss.length := by rw [h.len]; exact hi
    have h2 : i < (crashB ls ps [1#8]).length := by rw [hlen]; exact hi
    rw [List.getElem?_eq_getElem h1, List.getElem?_eq_getElem h2] at e ⊢
    simpa using e
  · rw [List.getElem?_eq_none (by rw [h.len]; omega), List.getElem?_eq_none (by rw [hlen]; omega)]
theorem twin_read {ls ss : List (List (BitVec 8))} {ps : List WriteT} (hl : ∀ i, i < ls.length → (ls.getD i []).length = 64) (hb : ∀ i, i < ps.length → (ps.getD i write0).b.length = 64) (h : RI ls ss ps) {i : Int} (hi : inB ls i = true) : readB (crashB ls ps [1#8]) [] i = readB ls ps i := by
  have e : inB (crashB ls ps [1#8]) i = true := by rw [inB_len crashB_len]; exact hi
  rw [read_ok e]; exact sync_all hl hb h.hat hi
theorem growW_b {E : TypeId} {v : Value} {ps : List WriteT} {Hs : List (Nat × Obj)} (h : GrowK encW 65 E v ps Hs) : ∀ i, i < ps.length → (ps.getD i write0).b.length = 64 := fun i hi => encW_b2 h.1 hi
theorem growA_all {E : TypeId} {v : Value} {l : List (List (BitVec 8))} {Hs : List (Nat × Obj)} (h : GrowK (encA u8) 64 E v l Hs) : ∀ i, i < l.length → (l.getD i []).length = 64 := fun i hi => growA_b h hi
theorem read_len {ls : List (List (BitVec 8))} {ps : List WriteT} (hl : ∀ i, i < ls.length → (ls.getD i []).length = 64) (hb : ∀ i, i < ps.length → (ps.getD i write0).b.length = 64) (n : Int) : (readB ls ps n).length = 64 := by
  cases hin : inB ls n with
  | false => rw [read_no hin]; simp
  | true =>
    rw [read_in hin]
    have h := inB_t hin
    unfold seenW
    cases hf : ps.reverse.find? (fun w => w.at_ == n) with
    | none => exact hl _ oM
    | some w =>
      have hm := List.mem_of_find?_eq_some hf
      obtain ⟨i, hi, rfl⟩ := List.mem_iff_getElem.1 (List.mem_reverse.1 hm)
      have := hb i hi
      simpa [List.getD_eq_getElem?_getD, hi] using this
theorem ri_sync {ls ss : List (List (BitVec 8))} {ps : List WriteT} (hl : ∀ i, i < ls.length → (ls.getD i []).length = 64) (hb : ∀ i, i < ps.length → (ps.getD i write0).b.length = 64) (h : RI ls ss ps) : RI (crashB ls ps [1#8]) ss [] := by
  have e := sync_eq hl hb h
  rw [← e]; exact ri_new ss
theorem inB_out {ls : List (List (BitVec 8))} {n : Int} (h : n < 0 ∨ (ls.length : Int) ≤ n) : inB ls n = false := by
  unfold inB
  rcases h with h | h
  · rw [decide_eq_false oM]; rfl
  · rw [decide_eq_false (p := n < (ls.length : Int)) oM, Bool.and_false]
attribute [local irreducible] crashB crashK pushB readB inB errB cutN seenW okW setB addB inN

set_option maxHeartbeats 2000000 in
theorem c_dsize (bd : Nat) (vl : Value) (ls : List (List (BitVec 8))) (vp : Value) (ps : List WriteT) (w0 : World)  (hd : blks w0 bd = some (.cells #[vl, vp] 88 (0, 0))) (hrl : RdK (blks w0) (encA u8) 64 vl ls) (hrp : RdK (blks w0) encW 65 vp ps) : CallsR Try.prog 30 #[(ptr bd 0)] w0 (fun r w1 => r = (i64 (ls.length : Int)) ∧ Ext w0 w1) := by
 refine callsR_of_cw (args := [(ptr bd 0)]) Try.func30 rfl Try.ntmps30 Try.results30 rfl ?_
 have hm0 : Mem w0 (restOf w0) [] := Mem.of_world w0
 refine sR <| rw_q rfl (ev_assign (v := (i64 0)) rfl) ?_
 refine rN (sR ?_)
 refine rw_q rfl (ev_move (v := (ptr bd 0)) rfl) <| rw_q rfl (ev_nilCheck rfl) <| rw_q rfl (ev_fa (r := 0) uT88 rfl (by first | rfl | omega) ti61 rfl rfl) <| rw_q (v := vl) rfl (ev_load1 uT61 rfl rfl (hm0.rest _ _ hd) rfl) <| rw_q (v := (i64 (ls.length : Int))) rfl (ev_len_rk (RdK.ofRest hrl hm0) uT61 rfl) <| rw_q rfl (ev_assign (v := (i64 (ls.length : Int))) rfl) ?_
 refine rN (cw_ret ?_)
 refine fnPost_ret [(i64 (ls.length : Int))] ⟨rfl, trivial⟩ ?_
 exact ⟨rfl, hm0.toExt⟩

set_option maxHeartbeats 2000000 in
theorem c_dnew0 (n : Int) (w0 : World)  (hn : n < 1 ∨ 65536 < n) : CallsR Try.prog 24 #[(i64 n)] w0 (fun r w1 => r = (Value.tuple #[(Value.pointer none), (i64 2)]) ∧ Ext w0 w1) := by
 refine callsR_of_cw (args := [(i64 n)]) Try.func24 rfl Try.ntmps24 Try.results24 rfl ?_
 have hm0 : Mem w0 (restOf w0) [] := Mem.of_world w0
 refine sR <| rw_q rfl (ev_assign (v := (Value.pointer none)) rfl) <| rw_q rfl (ev_assign (v := (i64 0)) rfl) ?_
 refine rN (cw_seq (sR ?_))
 refine rw_q rfl (ev_move (v := (i64 n)) rfl) <| rw_q rfl (ev_i64_lss (b := 1) rfl rfl) <| rw_q rfl (ev_move (v := (bl (decide (n < 1)))) rfl) ?_
 rcases Bool.eq_false_or_eq_true (decide (n < 1)) with hb1 | hb1
 · -- true
   have hb1p := of_decide_eq_true hb1
   refine rw_gn (s := 6) rfl rfl hb1 rfl <| rw_gn (s := 6) rfl rfl hb1 rfl <| rw_q rfl (ev_pick_tk rfl hb1 rfl) <| rN <| cw_cond_t rfl (by decide) <| sR ?_
   refine rw_q rfl (ev_assign (v := (Value.pointer none)) rfl) <| rw_q rfl (ev_assign (v := (i64 2)) rfl) ?_
   refine rN (cw_ret (kThen_ret ?_))
   refine fnPost_ret [(Value.pointer none), (i64 2)] ⟨rfl, rfl, trivial⟩ ?_
   exact ⟨rfl, hm0.toExt⟩
 · -- false
   have hb1p := of_decide_eq_false hb1
   refine rw_gyq (s := 6) rfl rfl hb1 rfl (ev_move (v := (i64 n)) rfl) <| rw_gyq (s := 6) rfl rfl hb1 rfl (ev_i64_gtr (b := 65536) rfl rfl) <| rw_q rfl (ev_pick_fk rfl hb1 rfl) <| rN ?_
   have hd2 : (decide (65536 < n)) = true := decide_eq_true oM
   refine cw_cond_t rfl hd2 <| sR <| rw_q rfl (ev_assign (v := (Value.pointer none)) rfl) <| rw_q rfl (ev_assign (v := (i64 2)) rfl) ?_
   refine rN (cw_ret (kThen_ret ?_))
   refine fnPost_ret [(Value.pointer none), (i64 2)] ⟨rfl, rfl, trivial⟩ ?_
   exact ⟨rfl, hm0.toExt⟩

set_option maxHeartbeats 2000000 in
theorem c_cloneB (v : Value) (l : List (List (BitVec 8))) (w0 : World)  (hr : RdK (blks w0) (encA u8) 64 v l) (hl : l.length ≤ 1048576) : CallsR Try.prog 54 #[v] w0 (fun r w1 => ∃ Hs, GrowK (encA u8) 64 43 r l Hs ∧ Mem w1 (restOf w0) Hs) := by
 refine callsR_of_cw (args := [v]) Try.func54 rfl Try.ntmps54 Try.results54 rfl ?_
 have hm0 : Mem w0 (restOf w0) [] := Mem.of_world w0
 refine sR <| rw_q rfl (ev_assign (v := (Value.slice none 0 0)) rfl) ?_
 refine rN (cw_seq (sR ?_))
 refine rM rfl (v := v) rfl <| rw_q rfl (ev_slnil_rk (RdK.ofRest hr hm0) uT61 rfl rfl) <| rN ?_
 refine cw_cond rfl (fun hc1 => ?_) (fun hc1 => ?_)
 · -- true
   refine sR <| rw_q rfl (ev_assign (v := (Value.slice none 0 0)) rfl) ?_
   refine rN (cw_ret (kThen_ret ?_))
   refine fnPost_ret [(Value.slice none 0 0)] ⟨rfl, trivial⟩ ?_
   exact ⟨[], GrowK.cast (GrowK.none (encA u8) 64 43) (slnil_nil hr hc1), hm0⟩
 · -- false
   refine cw_skip (kThen_normal (sR ?_))
   refine rw_c rfl (or_buildSlice_p (c := #[]) hm0 uT61 ti43 rfl pm_nil (by kernel_rfl)) ?_
   rintro _ w2 ⟨b5, rfl, _ew2, hm2⟩
   have hm2 : Mem w2 (restOf w0) [(b5, .cells #[] 43 (0, 0))] := hm2
   refine rM rfl (v := v) rfl <| rw_c rfl (or_appendK (enc := (encA u8)) (k := 64) (Hs := [(b5, .cells #[] 43 (0, 0))]) (H := []) hm2 (GrowK.of (encA u8) 64 43 b5 [] rfl (by simp)) rfl rfl (RdK.ofRest hr hm2) uT61 uT61 ti43 rfl rfl (fun _ _ => encA_one u8_one _) sL sL) ?_
   rintro sv3 w3 ⟨Hs3, hm3, g3⟩
   replace g3 : GrowK (encA u8) 64 43 sv3 l Hs3 := g3
   refine rA rfl (v := sv3) rfl ?_
   refine rN (cw_ret ?_)
   refine fnPost_ret [sv3] ⟨rfl, trivial⟩ ?_
   exact ⟨Hs3, GrowK.cast g3 (by simp), by simpa using hm3⟩

set_option maxHeartbeats 2000000 in
theorem c_cloneW (v : Value) (l : List WriteT) (w0 : World)  (hr : RdK (blks w0) encW 65 v l) (hl : l.length ≤ 1048576) : CallsR Try.prog 55 #[v] w0 (fun r w1 => ∃ Hs, GrowK encW 65 91 r l Hs ∧ Mem w1 (restOf w0) Hs) := by
 refine callsR_of_cw (args := [v]) Try.func55 rfl Try.ntmps55 Try.results55 rfl ?_
 have hm0 : Mem w0 (restOf w0) [] := Mem.of_world w0
 refine sR <| rw_q rfl (ev_assign (v := (Value.slice none 0 0)) rfl) ?_
 refine rN (cw_seq (sR ?_))
 refine rM rfl (v := v) rfl <| rw_q rfl (ev_slnil_rk (RdK.ofRest hr hm0) uT86 rfl rfl) <| rN ?_
 refine cw_cond rfl (fun hc1 => ?_) (fun hc1 => ?_)
 · -- true
   refine sR <| rw_q rfl (ev_assign (v := (Value.slice none 0 0)) rfl) ?_
   refine rN (cw_ret (kThen_ret ?_))
   refine fnPost_ret [(Value.slice none 0 0)] ⟨rfl, trivial⟩ ?_
   exact ⟨[], GrowK.cast (GrowK.none encW 65 91) (slnil_nil hr hc1), hm0⟩
 · -- false
   refine cw_skip (kThen_normal (sR ?_))
   refine rw_c rfl (or_buildSlice_p (c := #[]) hm0 uT86 ti91 rfl pm_nil (by kernel_rfl)) ?_
   rintro _ w2 ⟨b5, rfl, _ew2, hm2⟩
   have hm2 : Mem w2 (restOf w0) [(b5, .cells #[] 91 (0, 0))] := hm2
   refine rM rfl (v := v) rfl <| rw_c rfl (or_appendK (enc := encW) (k := 65) (Hs := [(b5, .cells #[] 91 (0, 0))]) (H := []) hm2 (GrowK.of encW 65 91 b5 [] rfl (by simp)) rfl rfl (RdK.ofRest hr hm2) uT86 uT86 ti91 rfl rfl (fun a _ => encW_one a) sL sL) ?_
   rintro sv3 w3 ⟨Hs3, hm3, g3⟩
   replace g3 : GrowK encW 65 91 sv3 l Hs3 := g3
   refine rA rfl (v := sv3) rfl ?_
   refine rN (cw_ret ?_)
   refine fnPost_ret [sv3] ⟨rfl, trivial⟩ ?_
   exact ⟨Hs3, GrowK.cast g3 (by simp), by simpa using hm3⟩

set_option maxHeartbeats 2000000 in
theorem c_twin (bd : Nat) (vl : Value) (ls : List (List (BitVec 8))) (vp : Value) (ps : List WriteT) (w0 : World)  (hd : blks w0 bd = some (.cells #[vl, vp] 88 (0, 0))) (hrl : RdK (blks w0) (encA u8) 64 vl ls) (hrp : RdK (blks w0) encW 65 vp ps) (hat : ∀ i, i < ps.length → 0 ≤ (ps.getD i write0).at_ ∧ (ps.getD i write0).at_ < (ls.length : Int)) (hll : ls.length ≤ 65536) (hpl : ps.length ≤ 1048576) : CallsR Try.prog 35 #[(ptr bd 0)] w0 (fun r w1 => ∃ bt vt Ht, r = ptr bt 0 ∧ GrowK (encA u8) 64 43 vt (crashB ls ps [1#8]) Ht ∧ Mem w1 (restOf w0) ([(bt, .cells #[vt, .slice none 0 0] 88 (0, 0))] ++ Ht)) := by
 refine callsR_of_cw (args := [(ptr bd 0)]) Try.func35 rfl Try.ntmps35 Try.results35 rfl ?_
 have hm0 : Mem w0 (restOf w0) [] := Mem.of_world w0
 refine sR <| rw_q rfl (ev_assign (v := (Value.pointer none)) rfl) ?_
 refine rN (cw_seq ?_)
 refine cw_draw [(0, false), (1, false), (2, false), (3, false), (5, false), (6, false), (7, false), (8, false), (4, true)] 9 (by kernel_rfl) <| dw_q rfl rfl (fun _ _hx => ev_move (v := (ptr bd 0)) rfl) <| dw_q rfl rfl (fun _ _hx => ev_nilCheck rfl) <| dw_q rfl rfl (fun _ _hx => ev_fa (r := 0) uT88 rfl (by first | rfl | omega) ti61 rfl rfl) <| dw_q (v := vl) rfl rfl (fun _ _hx => ev_load1 uT61 rfl rfl ((hm0.ext _hx).rest _ _ hd) rfl) <| dw_q rfl rfl (fun _ _hx => ev_move (v := (ptr bd 0)) rfl) ?_
 refine dw_q rfl rfl (fun _ _hx => ev_nilCheck rfl) <| dw_q rfl rfl (fun _ _hx => ev_fa (r := 1) uT88 rfl (by first | rfl | omega) ti86 rfl rfl) <| dw_q (v := vp) rfl rfl (fun _ _hx => ev_load1 uT86 rfl rfl ((hm0.ext _hx).rest _ _ hd) rfl) ?_
 refine dw_c rfl rfl (fun w1 _ew1 => ?_)
 have hm1 := hm0.ext _ew1
 refine OpR.mono (opR_call Try.func54 bd54 nm54 (args1 rfl) (c_cloneB vl ls _ (RdK.ofRest hrl hm1) sL)) ?_
 rintro rq3 w2 ⟨Hsq3, grq3, k_w2⟩
 refine ⟨k_w2.toExt, ?_⟩
 have hm2 : Mem w2 (restOf w0) (Hsq3 ++ ([])) := Mem.new (H := []) (H' := Hsq3) hm1 k_w2
 refine dw_nil (fun w4 _ew4 => ?_)
 have hm4 := hm2.ext _ew4
 refine rw_c rfl (opR_call Try.func55 bd55 nm55 (args1 rfl) (c_cloneW vp ps _ (RdK.ofRest hrp hm4) sL)) ?_
 rintro rq6 w5 ⟨Hsq6, grq6, k_w5⟩
 have hm5 : Mem w5 (restOf w0) (Hsq6 ++ (Hsq3 ++ ([]))) := Mem.new (H := Hsq3 ++ ([])) (H' := Hsq6) hm4 k_w5
 refine rw_q rfl (ev_build_pt (c := #[rq3, rq6]) (pl := [(0, 1), (1, 1)]) ti88 uT88 (by kernel_rfl) (pm_cons (i := 0) (v := rq3) (cs := #[rq3]) rfl (one_cells grq3.one) (pm_cons (i := 1) (v := rq6) (cs := #[rq6]) rfl (one_cells grq6.one) pm_nil)) (by kernel_rfl)) <| rw_c rfl (or_boxX (cs := #[rq3, rq6]) hm5 rfl) ?_
 rintro _ w7 ⟨b15, rfl, _ew7, hm7⟩
 refine rw_q rfl (ev_assign (v := (ptr b15 0)) rfl) ?_
 refine rN (sR ?_)
 refine rw_q rfl (ev_move (v := (ptr b15 0)) rfl) ?_
 have hF9 : Mem w7 (restOf w0) (([(b15, .cells #[rq3, rq6] 88 (0, 0))] ++ (Hsq3 ++ (Hsq6 ++ ([])))) ++ ([])) := by
   have hT := (Mem.pick2 Hsq3 Hsq6 [_] _ (Mem.pick2 Hsq6 [_] Hsq3 _ (Mem.pick [_] Hsq6 _ hm7)))
   simp only [List.append_assoc, List.cons_append, List.nil_append, List.append_nil] at hT ⊢
   exact hT
 refine rw_c rfl (opR_call Try.func26 bd26 nm26 (args1 rfl) (c_dsync b15 rq3 ls Hsq3 rq6 ps Hsq6 _ _ (Mem.give hF9) grq3 grq6 hat sL sL)) ?_
 rintro _ w8 ⟨Hl2q10, rfl, gl2q10, k_w8⟩
 have hm8 : Mem w8 (restOf w0) ([(b15, .cells #[rq3, (Value.slice none 0 0)] 88 (0, 0))] ++ (Hl2q10 ++ ([]))) := (by
   have hT := Mem.back hF9 k_w8
   simp only [List.append_assoc, List.cons_append, List.nil_append, List.append_nil] at hT ⊢
   exact hT)
 refine rN (sR ?_)
 refine rw_q rfl (ev_move (v := (ptr b15 0)) rfl) <| rw_q rfl (ev_assign (v := (ptr b15 0)) rfl) <| rN ?_
 refine CW.abs (fun g => g 0 = (ptr bd 0) ∧ g 2 = (ptr b15 0) ∧ g 3 = (ptr b15 0) ∧ True) ⟨rfl, rfl, rfl, trivial⟩ ?_
 rintro fr11 ⟨s0, s2, s3, _⟩
 refine cw_ret <| fnPost_ret [(ptr b15 0)] ⟨s2, trivial⟩ ?_
 exact ⟨b15, rq3, Hl2q10, rfl, gl2q10, (by
   have hT := hm8
   simp only [List.append_assoc, List.cons_append, List.nil_append, List.append_nil] at hT ⊢
   exact hT)⟩


end Go.Proofs.Ytfmjfojhcmmgcaa
