/- The order of notes. Conditions: none beyond those that each theorem states. -/
import Derived.Test.YtfmjfojhcmmgcaaMd5
import Derived.Test.YtfmjfojhcmmgcaaFwW
namespace Go.Proofs.Ytfmjfojhcmmgcaa
set_option linter.unusedVariables false
set_option linter.unusedSimpArgs false
/-! ### The order of notes; all that was sent -/
section
variable {sent : List SentT} {who : ByteArray} {notes notes' : List NoteT}
theorem take_get {α : Type} {l : List α} {d : α} {k : Nat} (hk : k < l.length) : l.take (k + 1) = l.take k ++ [l.getD k d] := by rw [List.take_add_one]; simp [List.getD_eq_getElem?_getD, hk]
theorem step_pre {pre pre' : List NoteT} {n : NoteT} {f : Int} (hf : f ≠ 2) : stepF sent who pre n f = stepF sent who pre' n f := by
  unfold stepF
  by_cases h1 : f = 1
  · rw [if_pos h1, if_pos h1]
  · rw [if_neg h1, if_neg h1, if_neg hf, if_neg hf]
theorem acc_any {f : Int} (hf : f ≠ 2) : ∀ k, k ≤ notes.length → accF sent who notes k f = (notes.take k).any fun n => stepF sent who [] n f
  | 0, _ => rfl
  | k + 1, h => by
    show (accF sent who notes k f || stepF sent who (notes.take k) (notes.getD k note0) f) = _
    rw [acc_any hf k oM, take_get (d := note0) (show k < notes.length by omega), List.any_append, step_pre (pre' := []) hf]
    simp only [List.any_cons, List.any_nil, Bool.or_false]
def offN (a b : NoteT) : Prop := sameF b.frm b.id_ a = false
theorem offN_symm {a b : NoteT} (h : offN a b) : offN b a := by
  unfold offN sameF at *
  rw [Bool.and_eq_false_iff] at *
  rcases h with h | h
  · exact .inl (decide_eq_false fun e => (of_decide_eq_false h) e.symm)
  · exact .inr (decide_eq_false fun e => (of_decide_eq_false h) e.symm)
theorem acc_two : ∀ k, k ≤ notes.length → (accF sent who notes k 2 = false ↔ (notes.take k).Pairwise offN)
  | 0, _ => by simp [accF]
  | k + 1, h => by
    have e : accF sent who notes (k + 1) 2 = (accF sent who notes k 2 || stepF sent who (notes.take k) (notes.getD k note0) 2) := rfl
    rw [e, Bool.or_eq_false_iff, acc_two k oM, take_get (d := note0) (show k < notes.length by omega), List.pairwise_append, st_2, List.any_eq_false]
    constructor
    · rintro ⟨h1, h2⟩
      refine ⟨h1, List.pairwise_singleton _ _, fun a ha b hb => ?_⟩
      rw [List.mem_singleton.1 hb]
      simpa [offN] using h2 a ha
    · rintro ⟨h1, _, h2⟩
      exact ⟨h1, fun a ha => by simpa [offN] using h2 a ha _ (List.mem_singleton.2 rfl)⟩
theorem perm_any {α : Type} {l l' : List α} (h : l.Perm l') (p : α → Bool) : l.any p = l'.any p := by
  rw [Bool.eq_iff_iff, List.any_eq_true, List.any_eq_true]
  exact ⟨fun ⟨x, h1, h2⟩ => ⟨x, h.mem_iff.1 h1, h2⟩, fun ⟨x, h1, h2⟩ => ⟨x, h.mem_iff.2 h1, h2⟩⟩
theorem acc_perm (h : notes.Perm notes') (f : Int) : accF sent who notes notes.length f = accF sent who notes' notes'.length f := by
  by_cases hf : f = 2
  · subst hf
    have h1 := acc_two (sent := sent) (who := who) (notes := notes) notes.length (Nat.le_refl _)
    have h2 := acc_two (sent := sent) (who := who) (notes := notes') notes'.length (Nat.le_refl _)
    rw [List.take_length] at h1 h2
    have h3 := h.pairwise_iff (R := offN) offN_symm
    have h4 : accF sent who notes notes.length 2 = false ↔ accF sent who notes' notes'.length 2 = false := h1.trans (h3.trans h2.symm)
    cases h5 : accF sent who notes notes.length 2 <;> cases h6 : accF sent who notes' notes'.length 2 <;> simp_all
  · rw [acc_any hf _ (Nat.le_refl _), acc_any hf _ (Nat.le_refl _), List.take_length, List.take_length]
    exact perm_any h _
theorem judge_perm (h : notes.Perm notes') : judgeF sent who notes = judgeF sent who notes' := by
  unfold judgeF
  rw [show accF sent who notes notes.length = accF sent who notes' notes'.length from funext fun f => acc_perm h f]
theorem miss_perm (h : notes.Perm notes') : missF sent who notes = missF sent who notes' := by
  unfold missF missK
  have e : (fun s : SentT => decide (s.to_ = who) && !(notes.any (sameF s.frm s.id_))) = fun s : SentT => decide (s.to_ = who) && !(notes'.any (sameF s.frm s.id_)) := funext fun s => by rw [perm_any h]
  rw [e]
theorem swap_perm {l : List NoteT} {a b : Nat} (ha : a < l.length) (hb : b < l.length) : ((l.set a (l.getD b note0)).set b (l.getD a note0)).Perm l := by
  have e1 : l.getD a note0 = l[a] := by simp [List.getD_eq_getElem?_getD, ha]
  have e2 : l.getD b note0 = l[b] := by simp [List.getD_eq_getElem?_getD, hb]
  rw [e1, e2]
  exact List.set_set_perm ha hb
/-- What was sent to somebody, as notes. -/
def noteOf (s : SentT) : NoteT := ⟨s.th, s.frm, s.id_, s.sl, s.body⟩
def mineK (sent : List SentT) (who : ByteArray) (k : Nat) : List NoteT := ((sent.take k).filter fun s => decide (s.to_ = who)).map noteOf
def offS (a b : SentT) : Prop := ¬ (a.frm = b.frm ∧ a.id_ = b.id_)
theorem mine_0 : [] = mineK sent who 0 := rfl
theorem mine_yes {k : Nat} (hk : k < sent.length) (h : decide ((sent.getD k sent0).to_ = who) = true) : mineK sent who k ++ [noteOf (sent.getD k sent0)] = mineK sent who (k + 1) := by
  unfold mineK
  rw [take_get (d := sent0) hk, List.filter_append, List.map_append, List.filter_cons_of_pos (p := fun s : SentT => decide (s.to_ = who)) h]; rfl
theorem mine_no {k : Nat} (hk : k < sent.length) (h : decide ((sent.getD k sent0).to_ = who) = false) : mineK sent who k = mineK sent who (k + 1) := by
  unfold mineK
  rw [take_get (d := sent0) hk, List.filter_append, List.map_append, List.filter_cons_of_neg (p := fun s : SentT => decide (s.to_ = who)) (by rw [h]; decide)]; simp
theorem mine_len (k : Nat) : (mineK sent who k).length ≤ sent.length := by
  unfold mineK
  rw [List.length_map]
  refine Nat.le_trans (List.length_filter_le _ _) ?_
  simp; omega
theorem mine_mem {k : Nat} {n : NoteT} (h : n ∈ mineK sent who k) : ∃ s ∈ sent, s.to_ = who ∧ noteOf s = n := by
  unfold mineK at h
  obtain ⟨s, h1, h2⟩ := List.mem_map.1 h
  obtain ⟨h3, h4⟩ := List.mem_filter.1 h1
  exact ⟨s, List.mem_of_mem_take h3, of_decide_eq_true h4, h2⟩
theorem mine_rd {m : Nat → Option Obj} {k : Nat} (h : ∀ a ∈ sent, Rd m u8 (slv a.body) a.body.2) : ∀ a ∈ mineK sent who k, Rd m u8 (slv a.body) a.body.2 := fun n hn => by
  obtain ⟨s, h1, _, rfl⟩ := mine_mem hn
  exact h s h1
theorem off_0 : (sent.take 0).Pairwise offS := List.Pairwise.nil
theorem off_succ {k : Nat} (hk : k < sent.length) (h : (sent.take k).Pairwise offS) (h2 : ∀ j, j < k → offS (sent.getD j sent0) (sent.getD k sent0)) : (sent.take (k + 1)).Pairwise offS := by
  rw [take_get (d := sent0) hk, List.pairwise_append]
  refine ⟨h, List.pairwise_singleton _ _, fun a ha b hb => ?_⟩
  rw [List.mem_singleton.1 hb]
  obtain ⟨i, hi, rfl⟩ := List.mem_iff_getElem.1 ha
  have hi2 : i < k := by rw [List.length_take] at hi; omega
  have := h2 i hi2
  rwa [show sent.getD i sent0 = (sent.take k)[i] from by simp [List.getD_eq_getElem?_getD, show i < sent.length by omega]] at this
theorem mine_off (h : sent.Pairwise offS) (k : Nat) : (mineK sent who k).Pairwise offN := by
  unfold mineK
  rw [List.pairwise_map]
  refine ((h.sublist (List.take_sublist k sent)).sublist List.filter_sublist).imp fun {a b} hab => ?_
  unfold offN sameF
  rw [Bool.and_eq_false_iff]
  by_cases h1 : a.frm = b.frm
  · exact .inr (decide_eq_false fun h2 => hab ⟨h1, h2⟩)
  · exact .inl (decide_eq_false h1)
theorem at_mine (hu : sent.Pairwise offS) {s : SentT} (hs : s ∈ sent) (hw : s.to_ = who) : 0 ≤ atI sent who (noteOf s) ∧ sent.getD (atI sent who (noteOf s)).toNat sent0 = s := by
  have his : isOf who (noteOf s) s = true := isOf_t (decide_eq_true hw) (decide_eq_true rfl) (decide_eq_true rfl)
  unfold atI
  cases h : sent.findIdx? (isOf who (noteOf s)) with
  | none =>
    exfalso
    have := List.findIdx?_eq_none_iff.1 h s hs
    rw [his] at this; cases this
  | some i =>
    obtain ⟨hi, h1, _⟩ := List.findIdx?_eq_some_iff_getElem.1 h
    refine ⟨by simp only; omega, ?_⟩
    simp only [Int.toNat_natCast]
    rw [show sent.getD i sent0 = sent[i] from by simp [List.getD_eq_getElem?_getD, hi]]
    obtain ⟨j, hj, rfl⟩ := List.mem_iff_getElem.1 hs
    unfold isOf at h1
    rw [Bool.and_eq_true, Bool.and_eq_true] at h1
    have e1 : sent[i].frm = sent[j].frm := of_decide_eq_true h1.2.1
    have e2 : sent[i].id_ = sent[j].id_ := of_decide_eq_true h1.2.2
    have hp := List.pairwise_iff_getElem.1 hu
    rcases Nat.lt_trichotomy i j with h2 | h2 | h2
    · exact absurd ⟨e1, e2⟩ (hp i j hi hj h2)
    · subst h2; rfl
    · exact absurd ⟨e1.symm, e2.symm⟩ (hp j i hj hi h2)
theorem mine_step (hu : sent.Pairwise offS) {s : SentT} (hs : s ∈ sent) (hw : s.to_ = who) {f : Int} (hf : f ≠ 2) : stepF sent who [] (noteOf s) f = false := by
  obtain ⟨h1, h2⟩ := at_mine hu hs hw
  unfold stepF
  rw [h2]
  by_cases e1 : f = 1
  · rw [if_pos e1]; exact decide_eq_false oM
  · rw [if_neg e1, if_neg hf]
    by_cases e3 : f = 3
    · rw [if_pos e3]; simp [noteOf]
    · rw [if_neg e3]
      by_cases e4 : f = 4
      · rw [if_pos e4]; simp [noteOf]
      · rw [if_neg e4]
        by_cases e5 : f = 5
        · rw [if_pos e5]; simp [noteOf]
        · rw [if_neg e5, Bool.and_false]
theorem judge_mine (hu : sent.Pairwise offS) {k : Nat} {l : List NoteT} (hm : ∀ n ∈ l, n ∈ mineK sent who k) (hp : l.Pairwise offN) : judgeF sent who l = [] := by
  unfold judgeF
  rw [List.filter_eq_nil_iff]
  intro f _
  rw [Bool.not_eq_true]
  by_cases hf : f = 2
  · rw [hf, acc_two _ (Nat.le_refl _), List.take_length]; exact hp
  · rw [acc_any hf _ (Nat.le_refl _), List.take_length, List.any_eq_false]
    intro n hn
    obtain ⟨s, h1, h2, rfl⟩ := mine_mem (hm n hn)
    rw [mine_step hu h1 h2 hf]; decide
theorem miss_mine (t : List NoteT) : missF sent who t = ((mineK sent who sent.length).filter fun n => !(t.any (sameF n.frm n.id_))).map (·.id_) := by
  unfold missF missK mineK
  rw [List.filter_map, List.map_map, List.filter_filter]
  congr 1
  congr 1
  funext s
  simp only [Function.comp, noteOf]
  rw [Bool.and_comm]
theorem same_self (n : NoteT) : sameF n.frm n.id_ n = true := by simp [sameF]
theorem whole_judge (hu : sent.Pairwise offS) {l : List NoteT} (hp : l.Perm (mineK sent who sent.length)) : judgeF sent who l = [] :=
  judge_mine hu (fun n hn => hp.mem_iff.1 hn) ((hp.pairwise_iff (R := offN) offN_symm).2 (mine_off hu _))
theorem whole_miss {l : List NoteT} (hp : l.Perm (mineK sent who sent.length)) : missF sent who l = [] := by
  rw [miss_mine]
  rw [List.map_eq_nil_iff, List.filter_eq_nil_iff]
  intro n hn
  rw [Bool.not_eq_true, Bool.not_eq_false']
  rw [List.any_eq_true]
  exact ⟨n, hp.mem_iff.2 hn, same_self n⟩
theorem tail_judge (hu : sent.Pairwise offS) {l : List NoteT} (hp : l.Perm (mineK sent who sent.length)) : judgeF sent who (l.drop 1) = [] :=
  judge_mine hu (fun n hn => hp.mem_iff.1 (List.mem_of_mem_drop hn)) (((hp.pairwise_iff (R := offN) offN_symm).2 (mine_off hu _)).sublist (List.drop_sublist 1 l))
theorem tail_miss (hu : sent.Pairwise offS) {l : List NoteT} (hp : l.Perm (mineK sent who sent.length)) (h0 : 0 < l.length) : missF sent who (l.drop 1) = [(l.getD 0 note0).id_] := by
  have hpw := (hp.pairwise_iff (R := offN) offN_symm).2 (mine_off hu _)
  cases l with
  | nil => simp at h0
  | cons n0 tl =>
    rw [List.pairwise_cons] at hpw
    rw [miss_mine]
    have hq := (hp.filter fun n => !(((n0 :: tl).drop 1).any (sameF n.frm n.id_)))
    have e : ((n0 :: tl).filter fun n => !(((n0 :: tl).drop 1).any (sameF n.frm n.id_))) = [n0] := by
      have h1 : (!(((n0 :: tl).drop 1).any (sameF n0.frm n0.id_))) = true := by
        rw [Bool.not_eq_true', List.any_eq_false]
        intro a ha
        have := offN_symm (hpw.1 a ha)
        unfold offN at this
        rw [this]; decide
      rw [List.filter_cons_of_pos (p := fun n : NoteT => !(((n0 :: tl).drop 1).any (sameF n.frm n.id_))) h1]
      congr 1
      rw [List.filter_eq_nil_iff]
      intro a ha
      rw [Bool.not_eq_true, Bool.not_eq_false', List.any_eq_true]
      exact ⟨a, ha, same_self a⟩
    rw [e] at hq
    rw [List.perm_singleton.1 hq.symm]
    rfl
theorem encN_one (a : NoteT) : (encN a).all (·.oneCell') = true := rfl
end
attribute [local irreducible] judgeF missF atI accF seenF jpre missK stepF mineK

set_option maxHeartbeats 4000000 in
theorem law_morder (vs : Value) (ls : List SentT) (who : ByteArray) (vn : Value) (ln : List NoteT) (vo : Value) (lo : List Int) (w0 : World)  (hrs : RdK (blks w0) encS 6 vs ls) (hqs : ∀ a ∈ ls, Rd (blks w0) u8 (slv a.body) a.body.2) (hls : ls.length ≤ 9223372036854775807) (hwho : who.size ≤ 9223372036854775807) (hrn : RdK (blks w0) encN 5 vn ln) (hqn : ∀ a ∈ ln, Rd (blks w0) u8 (slv a.body) a.body.2) (hln : ln.length ≤ 9223372036854775807) (hro : Rd (blks w0) i64 vo lo) (hlo : lo.length ≤ 9223372036854775807) : CallsR Try.prog 5 #[vs, (Value.string who), vn, vo] w0 (fun r w1 => r = bl true ∧ RowKit.Below w0.heap.size w0 w1) := by
 refine callsR_of_cw (args := [vs, (Value.string who), vn, vo]) Try.func5 rfl Try.ntmps5 Try.results5 rfl ?_
 have hm0 : Mem w0 (restOf w0) [] := Mem.of_world w0
 have hjl := judge_len (sent := ls) (who := who) (notes := ln); have hml : (missF ls who ln).length ≤ ls.length := by unfold missF; exact miss_len _
 refine sR <| rw_q rfl (ev_assign (v := (bl false)) rfl) ?_
 refine rN (cw_seq (sR ?_))
 refine rw_c rfl (opR_call Try.func14 bd14 nm14 (args0) (c_speaks24 _)) ?_
 rintro _ w1 ⟨rfl, _ew1⟩
 have hm1 := hm0.ext _ew1
 refine rw_q (v := (bl false)) rfl (ev_not (b := true) rfl) <| rN <| cw_cond_f rfl (by decide) ?_
 refine cw_skip (kThen_normal (cw_seq (sR ?_)))
 refine rM rfl (v := vs) rfl <| rM rfl (v := vn) rfl <| rw_c rfl (opR_call Try.func15 bd15 nm15 (args2 rfl rfl) (c_great vs ls vn ln _ (RdK.ofRest hrs hm1) (fun a h => Rd.ofRest (hqs a h) hm1) sL (RdK.ofRest hrn hm1) (fun a h => Rd.ofRest (hqn a h) hm1) sL)) ?_
 rintro _ w3 ⟨gq4, rfl, hgq4, k_w3⟩
 have hm3 : Mem w3 (restOf w0) [] := Mem.new (H := []) (H' := []) hm1 k_w3
 refine rw_q rfl (ev_move (v := (bl gq4)) rfl) ?_
 rcases Bool.eq_false_or_eq_true gq4 with hb5 | hb5
 · -- true
   refine rw_gn (s := 22) rfl rfl hb5 rfl <| rw_gn (s := 22) rfl rfl hb5 rfl <| rw_gn (s := 22) rfl rfl hb5 rfl <| rw_q rfl (ev_pick_tk rfl hb5 rfl) <| rN <| cw_cond_t rfl (by decide) ?_
   refine sR <| rw_q rfl (ev_assign (v := (bl true)) rfl) ?_
   refine rN (cw_ret (kThen_ret ?_))
   refine fnPost_ret [(bl true)] ⟨rfl, trivial⟩ ?_
   exact ⟨rfl, Mem.below w0 hm3⟩
 · -- false
   refine rw_gyq (s := 22) rfl rfl hb5 rfl (ev_move (v := vo) rfl) <| rw_gyq (s := 22) rfl rfl hb5 rfl (ev_len_rd (Rd.ofRest hro hm3) uT35 rfl) <| rw_gyq (s := 22) rfl rfl hb5 rfl (ev_i64_gtr (b := 100) rfl rfl) <| rw_q rfl (ev_pick_fk rfl hb5 rfl) <| rN ?_
   refine cw_cond rfl (fun hc6 => ?_) (fun hc6 => ?_)
   · -- true
     have hc6p := of_decide_eq_true hc6
     refine sR <| rw_q rfl (ev_assign (v := (bl true)) rfl) ?_
     refine rN (cw_ret (kThen_ret ?_))
     refine fnPost_ret [(bl true)] ⟨rfl, trivial⟩ ?_
     exact ⟨rfl, Mem.below w0 hm3⟩
   · -- false
     have hc6p := of_decide_eq_false hc6
     have hgl := hgq4 hb5
     refine cw_skip (kThen_normal (sR ?_))
     refine rw_c rfl (or_buildSlice_p (c := #[]) hm3 uT23 ti26 rfl pm_nil (by kernel_rfl)) ?_
     rintro _ w7 ⟨b27, rfl, _ew7, hm7⟩
     have hm7 : Mem w7 (restOf w0) [(b27, .cells #[] 26 (0, 0))] := hm7
     refine rM rfl (v := vn) rfl <| rw_c rfl (or_appendK (enc := encN) (k := 5) (Hs := [(b27, .cells #[] 26 (0, 0))]) (H := []) hm7 (GrowK.of encN 5 26 b27 [] rfl (by simp)) rfl rfl (RdK.ofRest hrn hm7) uT23 uT23 ti26 rfl rfl (fun a _ => encN_one a) sL sL) ?_
     rintro sv8 w8 ⟨Hs8, hm8, g8⟩
     replace g8 : GrowK encN 5 26 sv8 ln Hs8 := g8
     refine rA rfl (v := sv8) rfl <| rN ?_
     refine CW.abs (fun g => g 0 = vs ∧ g 1 = (Value.string who) ∧ g 2 = vn ∧ g 3 = vo ∧ g 8 = (bl false) ∧ g 9 = sv8 ∧ g 18 = (bl false) ∧ g 26 = (bl (decide (100 < (lo.length : Int)))) ∧ True) ⟨rfl, rfl, rfl, rfl, rfl, rfl, rfl, rfl, trivial⟩ ?_
     rintro fr9 ⟨s0, s1, s2, s3, s8, s9, s18, s26, _⟩
     refine cw_seq (sR ?_)
     refine rM rfl s3 <| rw_q (v := (i64 (lo.length : Int))) rfl (ev_len_rd (Rd.ofRest hro hm8) uT35 rfl) <| rw_q rfl (ev_move (v := (i64 0)) rfl) ?_
     refine rN (cw_block ?_)
     refine cw_loop (fun g wv => ∃ (k : Nat) (vm : Value) (lm : List NoteT) (Hs : List (Nat × Obj)), (k ≤ lo.length) ∧ (GrowK encN 5 26 vm lm Hs) ∧ (lm.Perm ln) ∧ g 0 = vs ∧ g 1 = (Value.string who) ∧ g 2 = vn ∧ g 3 = vo ∧ g 8 = (bl false) ∧ g 9 = vm ∧ g 18 = (bl false) ∧ g 26 = (bl (decide (100 < (lo.length : Int)))) ∧ g 30 = vo ∧ g 31 = (i64 (lo.length : Int)) ∧ g 32 = (i64 (k : Int)) ∧ Mem wv (restOf w0) (Hs ++ ([]))) (fun g wv => ((lo.length : Int) - RowKit.intOf (g 32)).toNat) ?_ ?_
     · exact ⟨0, sv8, ln, Hs8, (Nat.zero_le _), g8, (List.Perm.refl _), s0, s1, s2, s3, s8, s9, s18, s26, rfl, rfl, rfl, hm8⟩
     · rintro fr10 w11 ⟨k, vm, lm, Hs, hk, hg, hp, s0, s1, s2, s3, s8, s9, s18, s26, s30, s31, s32, hm11⟩
       have z9 := s9
       have z32 := s32
       have hqm : ∀ a ∈ lm, Rd (blks w0) u8 (slv a.body) a.body.2 := fun a h => hqn a (hp.mem_iff.1 h)
       have hlm := hp.length_eq
       refine sR <| rw_q rfl (ev_i64_lss s32 s31) ?_
       refine rN (cw_seq ?_)
       refine cw_cond rfl (fun hc12 => ?_) (fun hc12 => ?_)
       · -- true
         have hc12p := of_decide_eq_true hc12
         refine cw_skip (kThen_normal (cw_seq (cw_block (sR ?_))))
         refine rM rfl s32 <| rw_q rfl (ev_indexAddr_rdv (Rd.ofRest hro hm11) uT35 ti3 s30 s32 oM sL) <| rw_q (v := (i64 (lo.getD k 0))) rfl (ev_load_rdD (l := lo) (i := (k : Int)) (dflt := 0) (Rd.ofRest hro hm11) uT3 rfl oM sL rfl) <| rw_q rfl (ev_assign (v := (i64 (k : Int))) rfl) <| rw_q rfl (ev_assign (v := (i64 (lo.getD k 0))) rfl) ?_
         refine rN (sR ?_)
         refine rM rfl s9 <| rw_q (v := (i64 (lm.length : Int))) rfl (ev_len_rk (hg.rd hm11) uT23 rfl) <| rw_q rfl (ev_i64_gtr (b := 0) rfl rfl) <| rN ?_
         refine cw_cond rfl (fun hc13 => ?_) (fun hc13 => ?_)
         · -- true
           have hc13p := of_decide_eq_true hc13
           refine cw_seq <| cw_draw [(0, false), (1, false), (2, false), (3, false), (4, false), (5, false), (6, false), (7, false), (8, false), (9, false)] 10 (by kernel_rfl) <| dw_q rfl rfl (fun _ _hx => ev_move (v := (i64 (k : Int))) rfl) <| dM rfl rfl s9 <| dw_q (v := (i64 (lm.length : Int))) rfl rfl (fun _ _hx => ev_len_rk (hg.rd (hm11.ext _hx)) uT23 rfl) ?_
           obtain ⟨n14, hn14, hn14l⟩ : ∃ q : Nat, (k : Int) % (lm.length : Int) = (q : Int) ∧ q < lm.length := ⟨((k : Int) % (lm.length : Int)).toNat, (Int.toNat_of_nonneg (Int.emod_nonneg _ oM)).symm, by have h1 := Int.emod_nonneg (k : Int) (b := (lm.length : Int)) oM; have h2 := Int.emod_lt_of_pos (k : Int) (b := (lm.length : Int)) oM; omega⟩
           refine dw_q rfl rfl (fun _ _hx => EvQ.cast (congrArg i64 hn14) (ev_i64_rem rfl rfl oM oM oM)) <| dw_q rfl rfl (fun _ _hx => ev_move (v := (i64 (lo.getD k 0))) rfl) ?_
           obtain ⟨n15, hn15, hn15l⟩ : ∃ q : Nat, (((BitVec.ofInt 64 (lo.getD k 0)).toNat &&& (65535 : Int).toNat : Nat) : Int) = (q : Int) ∧ q ≤ 65535 := ⟨_, rfl, Nat.and_le_right⟩
           refine dw_q rfl rfl (fun _ _hx => EvQ.cast (congrArg i64 hn15) (ev_i64_and (b := 65535) rfl rfl oM oM)) <| dM rfl rfl s9 <| dw_q (v := (i64 (lm.length : Int))) rfl rfl (fun _ _hx => ev_len_rk (hg.rd (hm11.ext _hx)) uT23 rfl) ?_
           obtain ⟨n16, hn16, hn16l⟩ : ∃ q : Nat, (n15 : Int) % (lm.length : Int) = (q : Int) ∧ q < lm.length := ⟨((n15 : Int) % (lm.length : Int)).toNat, (Int.toNat_of_nonneg (Int.emod_nonneg _ oM)).symm, by have h1 := Int.emod_nonneg (n15 : Int) (b := (lm.length : Int)) oM; have h2 := Int.emod_lt_of_pos (n15 : Int) (b := (lm.length : Int)) oM; omega⟩
           refine dw_q rfl rfl (fun _ _hx => EvQ.cast (congrArg i64 hn16) (ev_i64_rem rfl rfl oM oM oM)) <| dw_q rfl rfl (fun _ _hx => ev_assign (v := (i64 (n14 : Int))) rfl) ?_
           refine dw_nil (fun w17 _ew17 => ?_)
           have hm17 := hm11.ext _ew17
           refine rw_q rfl (ev_assign (v := (i64 (n16 : Int))) rfl) <| rN ?_
           refine CW.abs (fun g => g 0 = vs ∧ g 1 = (Value.string who) ∧ g 2 = vn ∧ g 3 = vo ∧ g 8 = (bl false) ∧ g 9 = vm ∧ g 10 = (i64 (k : Int)) ∧ g 11 = (i64 (lo.getD k 0)) ∧ g 12 = (i64 (n14 : Int)) ∧ g 13 = (i64 (n16 : Int)) ∧ g 18 = (bl false) ∧ g 26 = (bl (decide (100 < (lo.length : Int)))) ∧ g 30 = vo ∧ g 31 = (i64 (lo.length : Int)) ∧ g 32 = (i64 (k : Int)) ∧ g 33 = (bl (decide ((k : Int) < (lo.length : Int)))) ∧ g 39 = (bl (decide (0 < (lm.length : Int)))) ∧ True) ⟨s0, s1, s2, s3, s8, s9, rfl, rfl, rfl, rfl, s18, s26, s30, s31, s32, rfl, rfl, trivial⟩ ?_
           rintro fr18 ⟨s0, s1, s2, s3, s8, s9, s10, s11, s12, s13, s18, s26, s30, s31, s32, s33, s39, _⟩
           refine cw_drawE (by kernel_rfl) ?_
           refine re_or 2 13 rfl rfl ?_ ?_
           · -- 2 ahead of 13
             refine re_or 3 13 rfl rfl ?_ ?_
             · -- 3 ahead of 13
               refine re_plan [(0, false), (1, false), (2, false), (3, false), (4, false), (5, false), (6, false), (7, false), (8, false), (9, false), (10, false), (11, false), (12, false)] 13 rfl (by kernel_rfl) <| dM rfl rfl s9 <| dM rfl rfl s12 <| dM rfl rfl s9 <| dM rfl rfl s13 <| dM rfl rfl s9 ?_
               refine dM rfl rfl s13 <| dw_q rfl rfl (fun _ _hx => ev_indexAddr_rk (i := (n16 : Int)) (hg.rd (hm17.ext _hx)) uT23 ti26 rfl rfl oM sL) <| dw_q (v := (Value.agg #[(Value.string ((lm.getD n16 note0).th)), (Value.string ((lm.getD n16 note0).frm)), (Value.string ((lm.getD n16 note0).id_)), (bl ((lm.getD n16 note0).sl)), (slv (lm.getD n16 note0).body)])) rfl rfl (fun _ _hx => ev_load_rkA (i := (n16 : Int)) (dflt := note0) (cs := #[(Value.string ((lm.getD n16 note0).th)), (Value.string ((lm.getD n16 note0).frm)), (Value.string ((lm.getD n16 note0).id_)), (bl ((lm.getD n16 note0).sl)), (slv (lm.getD n16 note0).body)]) (hg.rd (hm17.ext _hx)) sL uT26 rfl ti26 rfl rfl (by decide) rfl) <| dM rfl rfl s9 <| dM rfl rfl s12 <| dw_q rfl rfl (fun _ _hx => ev_indexAddr_rk (i := (n14 : Int)) (hg.rd (hm17.ext _hx)) uT23 ti26 rfl rfl oM sL) ?_
               refine dw_q (v := (Value.agg #[(Value.string ((lm.getD n14 note0).th)), (Value.string ((lm.getD n14 note0).frm)), (Value.string ((lm.getD n14 note0).id_)), (bl ((lm.getD n14 note0).sl)), (slv (lm.getD n14 note0).body)])) rfl rfl (fun _ _hx => ev_load_rkA (i := (n14 : Int)) (dflt := note0) (cs := #[(Value.string ((lm.getD n14 note0).th)), (Value.string ((lm.getD n14 note0).frm)), (Value.string ((lm.getD n14 note0).id_)), (bl ((lm.getD n14 note0).sl)), (slv (lm.getD n14 note0).body)]) (hg.rd (hm17.ext _hx)) sL uT26 rfl ti26 rfl rfl (by decide) rfl) <| dw_q rfl rfl (fun _ _hx => ev_indexAddr_rk (i := (n14 : Int)) (hg.rd (hm17.ext _hx)) uT23 ti26 rfl rfl oM sL) ?_
               refine dw_nil (fun w19 _ew19 => ?_)
               have hm19 := hm17.ext _ew19
               refine rw_n (or_storeK (Hs := Hs) (H := []) (a' := (lm.getD n16 note0)) (dflt := note0) (i := (n14 : Int)) (cs := #[(Value.string ((lm.getD n16 note0).th)), (Value.string ((lm.getD n16 note0).frm)), (Value.string ((lm.getD n16 note0).id_)), (bl ((lm.getD n16 note0).sl)), (slv (lm.getD n16 note0).body)]) hm19 hg ti26 sL rfl rfl rfl (by decide) rfl rfl) ?_
               rintro _ w20 ⟨Hs20, hm20, g20⟩
               replace g20 : GrowK encN 5 26 vm (lm.set n14 (lm.getD n16 note0)) Hs20 := g20
               refine rw_q rfl (ev_indexAddr_rk (i := (n16 : Int)) (g20.rd hm20) uT23 ti26 rfl rfl oM sL) <| rw_n (or_storeK (Hs := Hs20) (H := []) (a' := (lm.getD n14 note0)) (dflt := note0) (i := (n16 : Int)) (cs := #[(Value.string ((lm.getD n14 note0).th)), (Value.string ((lm.getD n14 note0).frm)), (Value.string ((lm.getD n14 note0).id_)), (bl ((lm.getD n14 note0).sl)), (slv (lm.getD n14 note0).body)]) hm20 g20 ti26 sL rfl rfl rfl (by decide) rfl rfl) ?_
               rintro _ w21 ⟨Hs21, hm21, g21⟩
               replace g21 : GrowK encN 5 26 vm ((lm.set n14 (lm.getD n16 note0)).set n16 (lm.getD n14 note0)) Hs21 := g21
               refine rw_nil (kBlk_normal ?_)
               refine CW.abs (fun g => g 0 = vs ∧ g 1 = (Value.string who) ∧ g 2 = vn ∧ g 3 = vo ∧ g 8 = (bl false) ∧ g 9 = vm ∧ g 10 = (i64 (k : Int)) ∧ g 11 = (i64 (lo.getD k 0)) ∧ g 12 = (i64 (n14 : Int)) ∧ g 13 = (i64 (n16 : Int)) ∧ g 18 = (bl false) ∧ g 26 = (bl (decide (100 < (lo.length : Int)))) ∧ g 30 = vo ∧ g 31 = (i64 (lo.length : Int)) ∧ g 32 = (i64 (k : Int)) ∧ g 33 = (bl (decide ((k : Int) < (lo.length : Int)))) ∧ g 39 = (bl (decide (0 < (lm.length : Int)))) ∧ True) ⟨s0, s1, s2, s3, s8, s9, s10, s11, s12, s13, s18, s26, s30, s31, s32, s33, s39, trivial⟩ ?_
               rintro fr22 ⟨s0, s1, s2, s3, s8, s9, s10, s11, s12, s13, s18, s26, s30, s31, s32, s33, s39, _⟩
               refine cw_region <| rw_q rfl (ev_i64_add (b := 1) s32 rfl oM oM) <| rw_q rfl (ev_move (v := (i64 ((k : Int) + 1))) rfl) <| rN ?_
               exact ⟨⟨(k + 1), vm, ((lm.set n14 (lm.getD n16 note0)).set n16 (lm.getD n14 note0)), Hs21, oM, g21, ((swap_perm oM oM).trans hp), s0, s1, s2, s3, s8, s9, s18, s26, s30, s31, rfl, hm21⟩, meas (rfl) z32 oM oM⟩
             · -- 13 ahead of 3
               refine re_planB [(0, false), (1, false), (2, false), (4, false), (5, false), (6, false), (7, false), (8, false), (9, false), (10, false), (11, false), (12, false), (13, true), (3, false)] 14 rfl (by kernel_rfl) <| db_q rfl rfl (fun _ _hx => ev_move s9) <| db_q rfl rfl (fun _ _hx => ev_move s12) <| db_q rfl rfl (fun _ _hx => ev_move s9) <| db_q rfl rfl (fun _ _hx => ev_move s9) <| db_q rfl rfl (fun _ _hx => ev_move s13) ?_
               refine db_q rfl rfl (fun _ _hx => ev_indexAddr_rk (i := (n16 : Int)) (hg.rd (hm17.ext _hx)) uT23 ti26 rfl rfl oM sL) <| db_q rfl rfl (fun _ _hx => ev_load_rkA (i := (n16 : Int)) (dflt := note0) (cs := #[(Value.string ((lm.getD n16 note0).th)), (Value.string ((lm.getD n16 note0).frm)), (Value.string ((lm.getD n16 note0).id_)), (bl ((lm.getD n16 note0).sl)), (slv (lm.getD n16 note0).body)]) (hg.rd (hm17.ext _hx)) sL uT26 rfl ti26 rfl rfl (by decide) rfl) <| db_q rfl rfl (fun _ _hx => ev_move s9) <| db_q rfl rfl (fun _ _hx => ev_move s12) <| db_q rfl rfl (fun _ _hx => ev_indexAddr_rk (i := (n14 : Int)) (hg.rd (hm17.ext _hx)) uT23 ti26 rfl rfl oM sL) <| db_q rfl rfl (fun _ _hx => ev_load_rkA (i := (n14 : Int)) (dflt := note0) (cs := #[(Value.string ((lm.getD n14 note0).th)), (Value.string ((lm.getD n14 note0).frm)), (Value.string ((lm.getD n14 note0).id_)), (bl ((lm.getD n14 note0).sl)), (slv (lm.getD n14 note0).body)]) (hg.rd (hm17.ext _hx)) sL uT26 rfl ti26 rfl rfl (by decide) rfl) ?_
               refine db_q rfl rfl (fun _ _hx => ev_indexAddr_rk (i := (n14 : Int)) (hg.rd (hm17.ext _hx)) uT23 ti26 rfl rfl oM sL) ?_
               refine db_n (by kernel_rfl) rfl (fun w23 _ew23 => ?_)
               have hm23 := hm17.ext _ew23
               refine OpR.mono (or_storeK (Hs := Hs) (H := []) (a' := (lm.getD n16 note0)) (dflt := note0) (i := (n14 : Int)) (cs := #[(Value.string ((lm.getD n16 note0).th)), (Value.string ((lm.getD n16 note0).frm)), (Value.string ((lm.getD n16 note0).id_)), (bl ((lm.getD n16 note0).sl)), (slv (lm.getD n16 note0).body)]) hm23 hg ti26 sL rfl rfl rfl (by decide) rfl rfl) ?_
               rintro _ w24 ⟨Hs24, hm24, g24⟩
               replace g24 : GrowK encN 5 26 vm (lm.set n14 (lm.getD n16 note0)) Hs24 := g24
               refine db_q rfl rfl (fun _ _hx => ev_move s13) ?_
               refine db_nil (fun w25 _ew25 => ?_)
               have hm25 := hm24.ext _ew25
               refine rw_q rfl (ev_indexAddr_rk (i := (n16 : Int)) (g24.rd hm25) uT23 ti26 rfl rfl oM sL) <| rw_n (or_storeK (Hs := Hs24) (H := []) (a' := (lm.getD n14 note0)) (dflt := note0) (i := (n16 : Int)) (cs := #[(Value.string ((lm.getD n14 note0).th)), (Value.string ((lm.getD n14 note0).frm)), (Value.string ((lm.getD n14 note0).id_)), (bl ((lm.getD n14 note0).sl)), (slv (lm.getD n14 note0).body)]) hm25 g24 ti26 sL rfl rfl rfl (by decide) rfl rfl) ?_
               rintro _ w26 ⟨Hs26, hm26, g26⟩
               replace g26 : GrowK encN 5 26 vm ((lm.set n14 (lm.getD n16 note0)).set n16 (lm.getD n14 note0)) Hs26 := g26
               refine rw_nil (kBlk_normal ?_)
               refine CW.abs (fun g => g 0 = vs ∧ g 1 = (Value.string who) ∧ g 2 = vn ∧ g 3 = vo ∧ g 8 = (bl false) ∧ g 9 = vm ∧ g 10 = (i64 (k : Int)) ∧ g 11 = (i64 (lo.getD k 0)) ∧ g 12 = (i64 (n14 : Int)) ∧ g 13 = (i64 (n16 : Int)) ∧ g 18 = (bl false) ∧ g 26 = (bl (decide (100 < (lo.length : Int)))) ∧ g 30 = vo ∧ g 31 = (i64 (lo.length : Int)) ∧ g 32 = (i64 (k : Int)) ∧ g 33 = (bl (decide ((k : Int) < (lo.length : Int)))) ∧ g 39 = (bl (decide (0 < (lm.length : Int)))) ∧ True) ⟨s0, s1, s2, s3, s8, s9, s10, s11, s12, s13, s18, s26, s30, s31, s32, s33, s39, trivial⟩ ?_
               rintro fr27 ⟨s0, s1, s2, s3, s8, s9, s10, s11, s12, s13, s18, s26, s30, s31, s32, s33, s39, _⟩
               refine cw_region <| rw_q rfl (ev_i64_add (b := 1) s32 rfl oM oM) <| rw_q rfl (ev_move (v := (i64 ((k : Int) + 1))) rfl) <| rN ?_
               exact ⟨⟨(k + 1), vm, ((lm.set n14 (lm.getD n16 note0)).set n16 (lm.getD n14 note0)), Hs26, oM, g26, ((swap_perm oM oM).trans hp), s0, s1, s2, s3, s8, s9, s18, s26, s30, s31, rfl, hm26⟩, meas (rfl) z32 oM oM⟩
           · -- 13 ahead of 2
             refine re_or 3 13 rfl rfl ?_ ?_
             · -- 3 ahead of 13
               refine re_planB [(0, false), (1, false), (3, false), (4, false), (5, false), (6, false), (7, false), (8, false), (9, false), (10, false), (11, false), (12, false), (13, true), (2, false)] 14 rfl (by kernel_rfl) <| db_q rfl rfl (fun _ _hx => ev_move s9) <| db_q rfl rfl (fun _ _hx => ev_move s12) <| db_q rfl rfl (fun _ _hx => ev_move s13) <| db_q rfl rfl (fun _ _hx => ev_move s9) <| db_q rfl rfl (fun _ _hx => ev_move s13) ?_
               refine db_q rfl rfl (fun _ _hx => ev_indexAddr_rk (i := (n16 : Int)) (hg.rd (hm17.ext _hx)) uT23 ti26 rfl rfl oM sL) <| db_q rfl rfl (fun _ _hx => ev_load_rkA (i := (n16 : Int)) (dflt := note0) (cs := #[(Value.string ((lm.getD n16 note0).th)), (Value.string ((lm.getD n16 note0).frm)), (Value.string ((lm.getD n16 note0).id_)), (bl ((lm.getD n16 note0).sl)), (slv (lm.getD n16 note0).body)]) (hg.rd (hm17.ext _hx)) sL uT26 rfl ti26 rfl rfl (by decide) rfl) <| db_q rfl rfl (fun _ _hx => ev_move s9) <| db_q rfl rfl (fun _ _hx => ev_move s12) <| db_q rfl rfl (fun _ _hx => ev_indexAddr_rk (i := (n14 : Int)) (hg.rd (hm17.ext _hx)) uT23 ti26 rfl rfl oM sL) <| db_q rfl rfl (fun _ _hx => ev_load_rkA (i := (n14 : Int)) (dflt := note0) (cs := #[(Value.string ((lm.getD n14 note0).th)), (Value.string ((lm.getD n14 note0).frm)), (Value.string ((lm.getD n14 note0).id_)), (bl ((lm.getD n14 note0).sl)), (slv (lm.getD n14 note0).body)]) (hg.rd (hm17.ext _hx)) sL uT26 rfl ti26 rfl rfl (by decide) rfl) ?_
               refine db_q rfl rfl (fun _ _hx => ev_indexAddr_rk (i := (n14 : Int)) (hg.rd (hm17.ext _hx)) uT23 ti26 rfl rfl oM sL) ?_
               refine db_n (by kernel_rfl) rfl (fun w28 _ew28 => ?_)
               have hm28 := hm17.ext _ew28
               refine OpR.mono (or_storeK (Hs := Hs) (H := []) (a' := (lm.getD n16 note0)) (dflt := note0) (i := (n14 : Int)) (cs := #[(Value.string ((lm.getD n16 note0).th)), (Value.string ((lm.getD n16 note0).frm)), (Value.string ((lm.getD n16 note0).id_)), (bl ((lm.getD n16 note0).sl)), (slv (lm.getD n16 note0).body)]) hm28 hg ti26 sL rfl rfl rfl (by decide) rfl rfl) ?_
               rintro _ w29 ⟨Hs29, hm29, g29⟩
               replace g29 : GrowK encN 5 26 vm (lm.set n14 (lm.getD n16 note0)) Hs29 := g29
               refine db_q rfl rfl (fun _ _hx => ev_move s9) ?_
               refine db_nil (fun w30 _ew30 => ?_)
               have hm30 := hm29.ext _ew30
               refine rw_q rfl (ev_indexAddr_rk (i := (n16 : Int)) (g29.rd hm30) uT23 ti26 rfl rfl oM sL) <| rw_n (or_storeK (Hs := Hs29) (H := []) (a' := (lm.getD n14 note0)) (dflt := note0) (i := (n16 : Int)) (cs := #[(Value.string ((lm.getD n14 note0).th)), (Value.string ((lm.getD n14 note0).frm)), (Value.string ((lm.getD n14 note0).id_)), (bl ((lm.getD n14 note0).sl)), (slv (lm.getD n14 note0).body)]) hm30 g29 ti26 sL rfl rfl rfl (by decide) rfl rfl) ?_
               rintro _ w31 ⟨Hs31, hm31, g31⟩
               replace g31 : GrowK encN 5 26 vm ((lm.set n14 (lm.getD n16 note0)).set n16 (lm.getD n14 note0)) Hs31 := g31
               refine rw_nil (kBlk_normal ?_)
               refine CW.abs (fun g => g 0 = vs ∧ g 1 = (Value.string who) ∧ g 2 = vn ∧ g 3 = vo ∧ g 8 = (bl false) ∧ g 9 = vm ∧ g 10 = (i64 (k : Int)) ∧ g 11 = (i64 (lo.getD k 0)) ∧ g 12 = (i64 (n14 : Int)) ∧ g 13 = (i64 (n16 : Int)) ∧ g 18 = (bl false) ∧ g 26 = (bl (decide (100 < (lo.length : Int)))) ∧ g 30 = vo ∧ g 31 = (i64 (lo.length : Int)) ∧ g 32 = (i64 (k : Int)) ∧ g 33 = (bl (decide ((k : Int) < (lo.length : Int)))) ∧ g 39 = (bl (decide (0 < (lm.length : Int)))) ∧ True) ⟨s0, s1, s2, s3, s8, s9, s10, s11, s12, s13, s18, s26, s30, s31, s32, s33, s39, trivial⟩ ?_
               rintro fr32 ⟨s0, s1, s2, s3, s8, s9, s10, s11, s12, s13, s18, s26, s30, s31, s32, s33, s39, _⟩
               refine cw_region <| rw_q rfl (ev_i64_add (b := 1) s32 rfl oM oM) <| rw_q rfl (ev_move (v := (i64 ((k : Int) + 1))) rfl) <| rN ?_
               exact ⟨⟨(k + 1), vm, ((lm.set n14 (lm.getD n16 note0)).set n16 (lm.getD n14 note0)), Hs31, oM, g31, ((swap_perm oM oM).trans hp), s0, s1, s2, s3, s8, s9, s18, s26, s30, s31, rfl, hm31⟩, meas (rfl) z32 oM oM⟩
             · -- 13 ahead of 3
               refine re_planB [(0, false), (1, false), (4, false), (5, false), (6, false), (7, false), (8, false), (9, false), (10, false), (11, false), (12, false), (13, true), (2, false), (3, false)] 14 rfl (by kernel_rfl) <| db_q rfl rfl (fun _ _hx => ev_move s9) <| db_q rfl rfl (fun _ _hx => ev_move s12) <| db_q rfl rfl (fun _ _hx => ev_move s9) <| db_q rfl rfl (fun _ _hx => ev_move s13) <| db_q rfl rfl (fun _ _hx => ev_indexAddr_rk (i := (n16 : Int)) (hg.rd (hm17.ext _hx)) uT23 ti26 rfl rfl oM sL) ?_
               refine db_q rfl rfl (fun _ _hx => ev_load_rkA (i := (n16 : Int)) (dflt := note0) (cs := #[(Value.string ((lm.getD n16 note0).th)), (Value.string ((lm.getD n16 note0).frm)), (Value.string ((lm.getD n16 note0).id_)), (bl ((lm.getD n16 note0).sl)), (slv (lm.getD n16 note0).body)]) (hg.rd (hm17.ext _hx)) sL uT26 rfl ti26 rfl rfl (by decide) rfl) <| db_q rfl rfl (fun _ _hx => ev_move s9) <| db_q rfl rfl (fun _ _hx => ev_move s12) <| db_q rfl rfl (fun _ _hx => ev_indexAddr_rk (i := (n14 : Int)) (hg.rd (hm17.ext _hx)) uT23 ti26 rfl rfl oM sL) <| db_q rfl rfl (fun _ _hx => ev_load_rkA (i := (n14 : Int)) (dflt := note0) (cs := #[(Value.string ((lm.getD n14 note0).th)), (Value.string ((lm.getD n14 note0).frm)), (Value.string ((lm.getD n14 note0).id_)), (bl ((lm.getD n14 note0).sl)), (slv (lm.getD n14 note0).body)]) (hg.rd (hm17.ext _hx)) sL uT26 rfl ti26 rfl rfl (by decide) rfl) <| db_q rfl rfl (fun _ _hx => ev_indexAddr_rk (i := (n14 : Int)) (hg.rd (hm17.ext _hx)) uT23 ti26 rfl rfl oM sL) ?_
               refine db_n (by kernel_rfl) rfl (fun w33 _ew33 => ?_)
               have hm33 := hm17.ext _ew33
               refine OpR.mono (or_storeK (Hs := Hs) (H := []) (a' := (lm.getD n16 note0)) (dflt := note0) (i := (n14 : Int)) (cs := #[(Value.string ((lm.getD n16 note0).th)), (Value.string ((lm.getD n16 note0).frm)), (Value.string ((lm.getD n16 note0).id_)), (bl ((lm.getD n16 note0).sl)), (slv (lm.getD n16 note0).body)]) hm33 hg ti26 sL rfl rfl rfl (by decide) rfl rfl) ?_
               rintro _ w34 ⟨Hs34, hm34, g34⟩
               replace g34 : GrowK encN 5 26 vm (lm.set n14 (lm.getD n16 note0)) Hs34 := g34
               refine db_q rfl rfl (fun _ _hx => ev_move s9) <| db_q rfl rfl (fun _ _hx => ev_move s13) ?_
               refine db_nil (fun w35 _ew35 => ?_)
               have hm35 := hm34.ext _ew35
               refine rw_q rfl (ev_indexAddr_rk (i := (n16 : Int)) (g34.rd hm35) uT23 ti26 rfl rfl oM sL) <| rw_n (or_storeK (Hs := Hs34) (H := []) (a' := (lm.getD n14 note0)) (dflt := note0) (i := (n16 : Int)) (cs := #[(Value.string ((lm.getD n14 note0).th)), (Value.string ((lm.getD n14 note0).frm)), (Value.string ((lm.getD n14 note0).id_)), (bl ((lm.getD n14 note0).sl)), (slv (lm.getD n14 note0).body)]) hm35 g34 ti26 sL rfl rfl rfl (by decide) rfl rfl) ?_
               rintro _ w36 ⟨Hs36, hm36, g36⟩
               replace g36 : GrowK encN 5 26 vm ((lm.set n14 (lm.getD n16 note0)).set n16 (lm.getD n14 note0)) Hs36 := g36
               refine rw_nil (kBlk_normal ?_)
               refine CW.abs (fun g => g 0 = vs ∧ g 1 = (Value.string who) ∧ g 2 = vn ∧ g 3 = vo ∧ g 8 = (bl false) ∧ g 9 = vm ∧ g 10 = (i64 (k : Int)) ∧ g 11 = (i64 (lo.getD k 0)) ∧ g 12 = (i64 (n14 : Int)) ∧ g 13 = (i64 (n16 : Int)) ∧ g 18 = (bl false) ∧ g 26 = (bl (decide (100 < (lo.length : Int)))) ∧ g 30 = vo ∧ g 31 = (i64 (lo.length : Int)) ∧ g 32 = (i64 (k : Int)) ∧ g 33 = (bl (decide ((k : Int) < (lo.length : Int)))) ∧ g 39 = (bl (decide (0 < (lm.length : Int)))) ∧ True) ⟨s0, s1, s2, s3, s8, s9, s10, s11, s12, s13, s18, s26, s30, s31, s32, s33, s39, trivial⟩ ?_
               rintro fr37 ⟨s0, s1, s2, s3, s8, s9, s10, s11, s12, s13, s18, s26, s30, s31, s32, s33, s39, _⟩
               refine cw_region <| rw_q rfl (ev_i64_add (b := 1) s32 rfl oM oM) <| rw_q rfl (ev_move (v := (i64 ((k : Int) + 1))) rfl) <| rN ?_
               exact ⟨⟨(k + 1), vm, ((lm.set n14 (lm.getD n16 note0)).set n16 (lm.getD n14 note0)), Hs36, oM, g36, ((swap_perm oM oM).trans hp), s0, s1, s2, s3, s8, s9, s18, s26, s30, s31, rfl, hm36⟩, meas (rfl) z32 oM oM⟩
         · -- false
           have hc13p := of_decide_eq_false hc13
           refine cw_skip (kBlk_normal (cw_region ?_))
           refine rw_q rfl (ev_i64_add (b := 1) s32 rfl oM oM) <| rw_q rfl (ev_move (v := (i64 ((k : Int) + 1))) rfl) <| rN ?_
           exact ⟨⟨(k + 1), vm, lm, Hs, oM, hg, hp, s0, s1, s2, s3, s8, s9, s18, s26, s30, s31, rfl, hm11⟩, meas (rfl) z32 oM oM⟩
       · -- false
         have hc12p := of_decide_eq_false hc12
         have hmp : missF ls who lm = missF ls who ln := miss_perm hp
         have hjp : judgeF ls who lm = judgeF ls who ln := judge_perm hp
         have hmq : (missF ls who lm).length = (missF ls who ln).length := by rw [hmp]
         refine cw_exit ?_
         refine kThen_exit (kThen_exit (kBlk_hit ?_))
         refine sR <| rM rfl s0 <| rM rfl s1 <| rM rfl s2 <| rw_c rfl (opR_call Try.func18 bd18 nm18 (args3 rfl rfl rfl) (c_missing vs ls who vn ln _ (RdK.ofRest hrs hm11) (fun a h => Rd.ofRest (hqs a h) hm11) sL (RdK.ofRest hrn hm11) (fun a h => Rd.ofRest (hqn a h) hm11) sL)) ?_
         rintro rq39 w38 ⟨Hsq39, grq39, k_w38⟩
         have hm38 : Mem w38 (restOf w0) (Hsq39 ++ (Hs ++ ([]))) := Mem.new (H := Hs ++ ([])) (H' := Hsq39) hm11 k_w38
         refine rM rfl s0 <| rM rfl s1 <| rM rfl s9 <| rw_c rfl (opR_call Try.func18 bd18 nm18 (args3 rfl rfl rfl) (c_missing vs ls who vm lm _ (RdK.ofRest hrs hm38) (fun a h => Rd.ofRest (hqs a h) hm38) sL (hg.rd (Mem.pick Hsq39 Hs _ hm38)) (fun a h => Rd.ofRest (hqm a h) hm38) sL)) ?_
         rintro rq41 w40 ⟨Hsq41, grq41, k_w40⟩
         have hm40 : Mem w40 (restOf w0) (Hsq41 ++ (Hsq39 ++ (Hs ++ ([])))) := Mem.new (H := Hsq39 ++ (Hs ++ ([]))) (H' := Hsq41) hm38 k_w40
         refine rA rfl (v := rq39) rfl <| rA rfl (v := rq41) rfl ?_
         refine rN (cw_seq (sR ?_))
         refine rM rfl (v := rq39) rfl <| rw_q (v := (i64 ((missF ls who ln).length : Int))) rfl (ev_len_rd (grq39.rd (Mem.pick Hsq41 Hsq39 _ hm40)) uT32 rfl) <| rM rfl (v := rq41) rfl <| rw_q (v := (i64 ((missF ls who lm).length : Int))) rfl (ev_len_rd (grq41.rd hm40) uT32 rfl) <| rw_q rfl (ev_i64_neq rfl rfl) <| rN ?_
         refine CW.abs (fun g => g 0 = vs ∧ g 1 = (Value.string who) ∧ g 2 = vn ∧ g 3 = vo ∧ g 8 = (bl false) ∧ g 9 = vm ∧ g 14 = rq39 ∧ g 15 = rq41 ∧ g 18 = (bl false) ∧ g 26 = (bl (decide (100 < (lo.length : Int)))) ∧ g 30 = vo ∧ g 31 = (i64 (lo.length : Int)) ∧ g 32 = (i64 (k : Int)) ∧ g 33 = (bl (decide ((k : Int) < (lo.length : Int)))) ∧ g 76 = (bl (((missF ls who ln).length : Int) != ((missF ls who lm).length : Int))) ∧ True) ⟨s0, s1, s2, s3, s8, s9, rfl, rfl, s18, s26, s30, s31, s32, rfl, rfl, trivial⟩ ?_
         rintro fr42 ⟨s0, s1, s2, s3, s8, s9, s14, s15, s18, s26, s30, s31, s32, s33, s76, _⟩
         have hd43 : (((missF ls who ln).length : Int) != ((missF ls who lm).length : Int)) = false := told_ne (by rw [hmp])
         refine cw_cond_f s76 hd43 ?_
         refine cw_skip (kThen_normal (cw_seq (sR ?_)))
         refine rM rfl s14 <| rw_q (v := (i64 ((missF ls who ln).length : Int))) rfl (ev_len_rd (grq39.rd (Mem.pick Hsq41 Hsq39 _ hm40)) uT32 rfl) <| rw_q rfl (ev_move (v := (i64 0)) rfl) ?_
         refine rN (cw_block ?_)
         refine cw_loop (fun g wv => ∃ (k2 : Nat), (k2 ≤ (missF ls who ln).length) ∧ g 0 = vs ∧ g 1 = (Value.string who) ∧ g 2 = vn ∧ g 3 = vo ∧ g 9 = vm ∧ g 14 = rq39 ∧ g 15 = rq41 ∧ g 18 = (bl false) ∧ g 26 = (bl (decide (100 < (lo.length : Int)))) ∧ g 30 = vo ∧ g 31 = (i64 (lo.length : Int)) ∧ g 32 = (i64 (k : Int)) ∧ g 33 = (bl (decide ((k : Int) < (lo.length : Int)))) ∧ g 76 = (bl (((missF ls who ln).length : Int) != ((missF ls who lm).length : Int))) ∧ g 78 = (i64 ((missF ls who ln).length : Int)) ∧ g 79 = (i64 (k2 : Int)) ∧ Mem wv (restOf w0) (Hsq41 ++ (Hsq39 ++ (Hs ++ ([]))))) (fun g wv => (((missF ls who ln).length : Int) - RowKit.intOf (g 79)).toNat) ?_ ?_
         · exact ⟨0, (Nat.zero_le _), s0, s1, s2, s3, s9, s14, s15, s18, s26, s30, s31, s32, s33, s76, rfl, rfl, hm40⟩
         · rintro fr44 w45 ⟨k2, hk2, s0, s1, s2, s3, s9, s14, s15, s18, s26, s30, s31, s32, s33, s76, s78, s79, hm45⟩
           have z79 := s79
           refine sR <| rw_q rfl (ev_i64_lss s79 s78) ?_
           refine rN (cw_seq ?_)
           refine cw_cond rfl (fun hc46 => ?_) (fun hc46 => ?_)
           · -- true
             have hc46p := of_decide_eq_true hc46
             refine cw_skip (kThen_normal (cw_seq (cw_block (sR ?_))))
             refine rM rfl s79 <| rw_q rfl (ev_assign (v := (i64 (k2 : Int))) rfl) ?_
             refine rN (cw_seq ?_)
             refine cw_draw [(0, false), (1, false), (2, false), (3, false), (4, false), (5, false), (6, false), (7, false)] 8 (by kernel_rfl) <| dM rfl rfl s14 <| dw_q rfl rfl (fun _ _hx => ev_move (v := (i64 (k2 : Int))) rfl) <| dw_q rfl rfl (fun _ _hx => ev_indexAddr_rdv (grq39.rd (Mem.pick Hsq41 Hsq39 _ (hm45.ext _hx))) uT32 ti9 rfl rfl oM sL) <| dw_q (v := (Value.string ((missF ls who ln).getD k2 ByteArray.empty))) rfl rfl (fun _ _hx => ev_load_rdD (l := missF ls who ln) (i := (k2 : Int)) (dflt := ByteArray.empty) (grq39.rd (Mem.pick Hsq41 Hsq39 _ (hm45.ext _hx))) uT9 rfl oM sL rfl) <| dM rfl rfl s15 ?_
             refine dw_q rfl rfl (fun _ _hx => ev_move (v := (i64 (k2 : Int))) rfl) <| dw_q rfl rfl (fun _ _hx => ev_indexAddr_rdv (grq41.rd (hm45.ext _hx)) uT32 ti9 rfl rfl oM sL) <| dw_q (v := (Value.string ((missF ls who lm).getD k2 ByteArray.empty))) rfl rfl (fun _ _hx => ev_load_rdD (l := missF ls who lm) (i := (k2 : Int)) (dflt := ByteArray.empty) (grq41.rd (hm45.ext _hx)) uT9 rfl oM sL rfl) ?_
             refine dw_nil (fun w47 _ew47 => ?_)
             have hm47 := hm45.ext _ew47
             refine rw_q rfl (ev_str_neq (s := ((missF ls who ln).getD k2 ByteArray.empty)) (t := ((missF ls who lm).getD k2 ByteArray.empty)) rfl rfl) <| rN ?_
             have hd48 : (!decide (((missF ls who ln).getD k2 ByteArray.empty) = ((missF ls who lm).getD k2 ByteArray.empty))) = false := by rw [hmp]; simp
             refine cw_cond_f rfl hd48 ?_
             refine cw_skip (kBlk_normal (cw_region ?_))
             refine rw_q rfl (ev_i64_add (b := 1) s79 rfl oM oM) <| rw_q rfl (ev_move (v := (i64 ((k2 : Int) + 1))) rfl) <| rN ?_
             exact ⟨⟨(k2 + 1), oM, s0, s1, s2, s3, s9, s14, s15, s18, s26, s30, s31, s32, s33, s76, s78, rfl, hm47⟩, meas (rfl) z79 oM oM⟩
           · -- false
             have hc46p := of_decide_eq_false hc46
             refine cw_exit ?_
             refine kThen_exit (kThen_exit (kBlk_hit ?_))
             refine sR <| rM rfl s0 <| rM rfl s1 <| rM rfl s2 <| rw_c rfl (opR_call Try.func21 bd21 nm21 (args3 rfl rfl rfl) (c_judge vs ls who vn ln _ (RdK.ofRest hrs hm45) (fun a h => Rd.ofRest (hqs a h) hm45) sL (RdK.ofRest hrn hm45) (fun a h => Rd.ofRest (hqn a h) hm45) sL)) ?_
             rintro rq50 w49 ⟨Hsq50, grq50, k_w49⟩
             have hm49 : Mem w49 (restOf w0) (Hsq50 ++ (Hsq41 ++ (Hsq39 ++ (Hs ++ ([]))))) := Mem.new (H := Hsq41 ++ (Hsq39 ++ (Hs ++ ([])))) (H' := Hsq50) hm45 k_w49
             refine rM rfl s0 <| rM rfl s1 <| rM rfl s9 <| rw_c rfl (opR_call Try.func21 bd21 nm21 (args3 rfl rfl rfl) (c_judge vs ls who vm lm _ (RdK.ofRest hrs hm49) (fun a h => Rd.ofRest (hqs a h) hm49) sL (hg.rd (Mem.pick3 Hsq50 Hsq41 Hsq39 Hs _ hm49)) (fun a h => Rd.ofRest (hqm a h) hm49) sL)) ?_
             rintro rq52 w51 ⟨Hsq52, grq52, k_w51⟩
             have hm51 : Mem w51 (restOf w0) (Hsq52 ++ (Hsq50 ++ (Hsq41 ++ (Hsq39 ++ (Hs ++ ([])))))) := Mem.new (H := Hsq50 ++ (Hsq41 ++ (Hsq39 ++ (Hs ++ ([]))))) (H' := Hsq52) hm49 k_w51
             refine rw_c rfl (opR_call Try.func20 bd20 nm20 (args2 rfl rfl) (c_sameI rq50 rq52 (judgeF ls who ln) (judgeF ls who lm) _ (grq50.rd (Mem.pick Hsq52 Hsq50 _ hm51)) (grq52.rd hm51) sL)) ?_
             rintro _ w53 ⟨rfl, _ew53⟩
             have hm53 := hm51.ext _ew53
             refine rw_q rfl (ev_assign (v := (bl ((judgeF ls who ln) == (judgeF ls who lm)))) rfl) ?_
             refine rN (cw_ret ?_)
             refine fnPost_ret [(bl ((judgeF ls who ln) == (judgeF ls who lm)))] ⟨rfl, trivial⟩ ?_
             have hd55 : ((judgeF ls who ln) == (judgeF ls who lm)) = true := told_true (by rw [hjp])
             exact ⟨congrArg bl hd55, Mem.below w0 hm53⟩


end Go.Proofs.Ytfmjfojhcmmgcaa
