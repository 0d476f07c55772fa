/- A journal opened, a record put behind others, a base begun: plain law and contracts. Conditions: none beyond those that each theorem states. -/
import Derived.Test.YtfbnhoolkajebaaJo5
namespace Go.Proofs.Ytfbnhoolkajebaa
set_option linter.unusedVariables false
set_option linter.unusedSimpArgs false
/-! ### What a half's records take -/
theorem data_le {y : List (BitVec 8)} {g num : BitVec 64} {i : Nat} (hb : ¬ badB y g num i = true) : (dataB y).length ≤ 42 := by
  have h2 : ¬ decide ((42 : Int) < ((nOf y).toNat : Int)) = true := by
    intro h; apply hb; unfold badB; rw [h]; simp
  have h3 : (nOf y).toNat ≤ 42 := by
    have := of_decide_eq_false (by simpa using h2 : decide ((42 : Int) < ((nOf y).toNat : Int)) = false); omega
  unfold dataB; simp; omega
section
variable {X : Int → List (BitVec 8)} {num : BitVec 64} {pos sz : Int}
theorem recB_m : ∀ (f i : Nat) (g : BitVec 64) (acc : List (BitVec 8)), acc.length ≤ 42 * i → (recB X num pos f i g acc).ok = true → ∃ m : Nat, (recB X num pos f i g acc).next = pos + (m : Int) ∧ i < m ∧ (recB X num pos f i g acc).b.length ≤ 42 * m
  | 0, _, _, _, _, h => by cases h
  | f + 1, i, g, acc, ha, h => by
    unfold recB at h ⊢
    by_cases hb : badB (X (i : Int)) (genF g (X (i : Int))) num i = true
    · rw [if_pos hb] at h; cases h
    · rw [if_neg hb] at h ⊢
      have hd := data_le hb
      by_cases hl : lastP (X (i : Int)) = true
      · rw [if_pos hl]; exact ⟨i + 1, by push_cast; omega, by omega, by simp only [List.length_append]; omega⟩
      · rw [if_neg hl] at h ⊢
        obtain ⟨m, h1, h2, h3⟩ := recB_m f (i + 1) _ _ (by rw [List.length_append]; omega) h
        exact ⟨m, h1, by omega, h3⟩
theorem recF_m {ls : List (List (BitVec 8))} {ps : List WriteT} {fr0 : Int} {g : BitVec 64} (h : (recF ls ps fr0 sz g num pos).ok = true) : ∃ m : Nat, (recF ls ps fr0 sz g num pos).next = pos + (m : Int) ∧ blocksN (recF ls ps fr0 sz g num pos).b.length ≤ m ∧ (recF ls ps fr0 sz g num pos).b.length ≤ 42 * m := by
  unfold recF at h ⊢
  obtain ⟨m, h1, h2, h3⟩ := recB_m _ _ _ _ (Nat.zero_le _) h
  exact ⟨m, h1, by unfold blocksN; omega, h3⟩
/-- What holds of a half's state while it is read. -/
structure HalfI (sz : Int) (h : HalfT) : Prop where
  at0 : 0 ≤ h.at_
  at1 : h.at_ ≤ sz
  room : (roomB h.recs : Int) ≤ h.at_
  el : ∀ b ∈ h.recs, b.length ≤ 42 * sz.toNat
  gen : (h.gen == 0#64) = false → 0 < h.recs.length
def QI (sz : Int) (h : HalfT) (q : RecT) : Prop := q.ok = true → ∃ m : Nat, q.next = h.at_ + (m : Int) ∧ blocksN q.b.length ≤ m ∧ q.b.length ≤ 42 * m ∧ q.next ≤ sz
theorem QI_rec {ls : List (List (BitVec 8))} {ps : List WriteT} {fr0 : Int} {g n : BitVec 64} {h : HalfT} (h0 : 0 ≤ h.at_ ∧ h.at_ ≤ sz) : QI sz h (recF ls ps fr0 sz g n h.at_) := fun hok => by
  obtain ⟨m, h1, h2, h3⟩ := recF_m hok
  exact ⟨m, h1, h2, h3, (recF_next h0 hok).2⟩
theorem loopH_I {ls : List (List (BitVec 8))} {ps : List WriteT} {fr0 : Int} : ∀ (f : Nat) (h : HalfT) (g : BitVec 64) (q : RecT), HalfI sz h → QI sz h q → HalfI sz (loopH (fun g n p => recF ls ps fr0 sz g n p) f h g q)
  | 0, h, _, _, hi, _ => hi
  | f + 1, h, g, q, hi, hq => by
    by_cases hok : q.ok = true
    · obtain ⟨m, h1, h2, h3, h4⟩ := hq hok
      have h5 := hi.at0
      have h6 := hi.room
      have hi2 : HalfI sz ⟨g, h.recs ++ [q.b], q.next⟩ := by
        refine ⟨by show 0 ≤ q.next; omega, h4, ?_, ?_, fun _ => by show 0 < (h.recs ++ [q.b]).length; simp⟩
        · show (roomB (h.recs ++ [q.b]) : Int) ≤ q.next
          rw [room_snoc]; push_cast; omega
        · intro b hb
          rcases List.mem_append.1 hb with hb | hb
          · exact hi.el b hb
          · obtain rfl : b = q.b := by simpa using hb
            have : m ≤ sz.toNat := by omega
            have := Nat.mul_le_mul_left 42 this
            omega
      have := loopH_I (ls := ls) (ps := ps) (fr0 := fr0) f ⟨g, h.recs ++ [q.b], q.next⟩ g (recF ls ps fr0 sz g (BitVec.ofInt 64 ((h.recs.length : Int) + 1)) q.next) hi2 (QI_rec (h := ⟨g, h.recs ++ [q.b], q.next⟩) ⟨hi2.at0, hi2.at1⟩)
      show HalfI sz (if _ then _ else _)
      rw [if_pos hok]; exact this
    · show HalfI sz (if _ then _ else _)
      rw [if_neg hok]; exact hi
theorem readH_I {ls : List (List (BitVec 8))} {ps : List WriteT} {fr0 : Int} (h0 : 0 ≤ sz) : HalfI sz (readH ls ps fr0 sz) := by
  unfold readH
  exact loopH_I _ ⟨0#64, [], 0⟩ _ _ ⟨Int.le_refl _, h0, Int.le_refl _, fun b hb => (by cases hb), fun h => (by cases h)⟩ (QI_rec (h := ⟨0#64, [], 0⟩) ⟨Int.le_refl _, h0⟩)
end
theorem room_len {L : List (List (BitVec 8))} : L.length ≤ roomB L := by
  have := roomT_k (L := L) L.length (Nat.le_refl _)
  rwa [List.take_of_length_le (Nat.le_refl _)] at this
/-- What Open leaves on the disk. -/
def openD (ls : List (List (BitVec 8))) (ps : List WriteT) : List (List (BitVec 8)) :=
  crashB (turnL ls ps ((ls.length : Int) / 2 - (oldB ls ps).1) (newB ls ps) (oldB ls ps).2) (turnP ls ps ((ls.length : Int) / 2 - (oldB ls ps).1) (newB ls ps) (oldB ls ps).2) [1#8]
theorem openD_len {ls : List (List (BitVec 8))} {ps : List WriteT} : (openD ls ps).length = ls.length := by unfold openD; rw [crashB_len', turnL_len]
theorem nil_map : [toSl (.slice none 0 0) []].map (·.2) = [[]] := rfl
theorem one_map (v : Value) (l : List (BitVec 8)) : [toSl v l].map (·.2) = [l] := by simp [toSl_snd]
theorem room_nil : roomB [[]] = 1 := rfl
theorem room_1 (b : List (BitVec 8)) : roomB [b] = blocksN b.length := by simp [roomB]
theorem map_el {rs : List SlT} {L : List (List (BitVec 8))} (h : rs.map (·.2) = L) {P : List (BitVec 8) → Prop} (hp : ∀ b ∈ L, P b) : ∀ p ∈ rs, P p.2 := fun p hr => hp _ (h ▸ List.mem_map.2 ⟨p, hr, rfl⟩)
theorem map_el1 {v : Value} {l : List (BitVec 8)} {n : Nat} (h : l.length ≤ n) : ∀ p ∈ [toSl v l], p.2.length ≤ n := fun p hp => by
  obtain rfl : p = toSl v l := by simpa using hp
  rw [toSl_snd]; exact h
theorem nil_el : ∀ b ∈ ([[]] : List (List (BitVec 8))), b.length ≤ 84000 := fun b hb => by
  obtain rfl : b = [] := by simpa using hb
  exact Nat.zero_le _
attribute [local irreducible] crashB crashK pushB readB inB errB cutN seenW
attribute [local irreducible] markB putB getB getK partB placeF blkOf rawB writeK blocksN
attribute [local irreducible] mostK newB roomB
attribute [local irreducible] recB recF recN genF badB lastP dataB gOf rOf pOf nOf loopH readH
attribute [local irreducible] okP layK turnL turnP oldB
attribute [local irreducible] openD
set_option maxHeartbeats 2000000 in
theorem c_jopen (bd : Nat) (vl : Value) (ls : List (List (BitVec 8))) (Hl : List (Nat × Obj)) (vp : Value) (ps : List WriteT) (Hp : List (Nat × Obj)) (w0 : World) (R : Rest) (hm0 : Mem w0 R ([(bd, .cells #[vl, vp] 94 (0, 0))] ++ (Hl ++ (Hp ++ ([]))))) (gl : GrowK (encA u8) 64 83 vl ls Hl) (gp : GrowK encW 65 104 vp ps Hp) (h4 : 4 ≤ ls.length ∧ ls.length ≤ 4000) (hpl : ps.length ≤ 2000) (hok : okP ps (ls.length : Int)) (hnew : (newB ls ps == 0#64) = false) : CallsR Try.prog 14 #[(ptr bd 0)] w0 (fun r w1 => ∃ bn vr rs Hr Hl2, r = .tuple #[ptr bn 0, i64 0] ∧ rs.map (·.2) = (oldB ls ps).2 ∧ rs.length = (oldB ls ps).2.length ∧ GrowL mN 23 vr rs Hr ∧ GrowK (encA u8) 64 83 vl (openD ls ps) Hl2 ∧ Mem w1 R ([(bn, .cells #[(ptr bd 0), (i64 (((ls.length : Int) / 2) - (oldB ls ps).1)), (i64 ((ls.length : Int) / 2)), (u64 (newB ls ps)), vr, (i64 (roomB (oldB ls ps).2 : Int))] 100 (0, 0))] ++ (Hr ++ ([(bd, .cells #[vl, (Value.slice none 0 0)] 94 (0, 0))] ++ (Hl2 ++ ([])))))) := by
 refine callsR_of_cw (args := [(ptr bd 0)]) Try.func14 rfl Try.ntmps14 Try.results14 rfl ?_
 have hI1 := readH_I (ls := ls) (ps := ps) (fr0 := 0) (sz := ((ls.length : Int) / 2)) oM; have hI2 := readH_I (ls := ls) (ps := ps) (fr0 := ((ls.length : Int) / 2)) (sz := ((ls.length : Int) / 2)) oM
 refine sR <| rw_q rfl (ev_assign (v := (Value.pointer none)) rfl) <| rw_q rfl (ev_assign (v := (i64 0)) rfl) ?_
 refine rN (cw_seq (sR ?_))
 refine rw_q rfl (ev_move (v := (ptr bd 0)) rfl) <| rw_c rfl (opR_call Try.func49 bd49 nm49 (args1 rfl) (c_dsize bd vl ls vp ps _ hm0.h0 (gl.rd (Mem.pick [_] Hl _ hm0)) (gp.rd (Mem.pick2 [_] Hl Hp _ hm0)))) ?_
 rintro _ w1 ⟨rfl, _ew1⟩
 have hm1 := hm0.ext _ew1
 refine rw_q rfl (ev_i64_lss (b := 4) rfl rfl) <| rN ?_
 have hd3 : (decide ((ls.length : Int) < 4)) = false := decide_eq_false oM
 refine cw_cond_f rfl hd3 ?_
 refine cw_skip (kThen_normal (sR ?_))
 refine rw_q rfl (ev_move (v := (ptr bd 0)) rfl) <| rw_c rfl (opR_call Try.func49 bd49 nm49 (args1 rfl) (c_dsize bd vl ls vp ps _ hm1.h0 (gl.rd (Mem.pick [_] Hl _ hm1)) (gp.rd (Mem.pick2 [_] Hl Hp _ hm1)))) ?_
 rintro _ w4 ⟨rfl, _ew4⟩
 have hm4 := hm1.ext _ew4
 refine rw_q rfl (ev_i64_quo (b := 2) rfl rfl oM oM oM) <| rw_q rfl (ev_assign (v := (i64 ((ls.length : Int) / 2))) rfl) ?_
 refine rN (sR ?_)
 refine rw_q rfl (ev_move (v := (i64 ((ls.length : Int) / 2))) rfl) <| rw_q rfl (ev_build_pt (c := #[(i64 0), (i64 ((ls.length : Int) / 2)), (u64 0), (Value.slice none 0 0), (i64 0)]) (pl := [(0, 1), (1, 1), (2, 1), (3, 1), (4, 1)]) ti97 uT97 (by kernel_rfl) (pm_cons (i := 1) (v := (i64 ((ls.length : Int) / 2))) (cs := #[(i64 ((ls.length : Int) / 2))]) rfl rfl pm_nil) (by kernel_rfl)) <| rw_q rfl (ev_move (v := (i64 ((ls.length : Int) / 2))) rfl) <| rw_q rfl (ev_move (v := (i64 ((ls.length : Int) / 2))) rfl) <| rw_q rfl (ev_build_pt (c := #[(i64 ((ls.length : Int) / 2)), (i64 ((ls.length : Int) / 2)), (u64 0), (Value.slice none 0 0), (i64 0)]) (pl := [(0, 1), (1, 1), (2, 1), (3, 1), (4, 1)]) ti97 uT97 (by kernel_rfl) (pm_cons (i := 0) (v := (i64 ((ls.length : Int) / 2))) (cs := #[(i64 ((ls.length : Int) / 2))]) rfl rfl (pm_cons (i := 1) (v := (i64 ((ls.length : Int) / 2))) (cs := #[(i64 ((ls.length : Int) / 2))]) rfl rfl pm_nil)) (by kernel_rfl)) <| rw_c rfl (or_allocX hm4 ti97) ?_
 rintro _ w6 ⟨b5, rfl, _ew6, hm6⟩
 refine rw_c rfl (or_allocX hm6 ti97) ?_
 rintro _ w7 ⟨b6, rfl, _ew7, hm7⟩
 refine rw_n (or_storeW (cs := #[(i64 0), (i64 ((ls.length : Int) / 2)), (u64 0), (Value.slice none 0 0), (i64 0)]) ti97 rfl rfl (by kernel_rfl) (one_arr (one_cons (i64_one _) (one_cons (i64_one _) (one_cons (u64_one _) (one_cons rfl (one_cons (i64_one _) one_nil)))))) hm7.h1 (by kernel_rfl) rfl) ?_
 rintro _ w8 uq8
 have hm8 : Mem w8 R ([(b6, .cells #[(i64 0), (i64 0), (u64 0), (Value.slice none 0 0), (i64 0)] 97 (0, 0)), (b5, .cells #[(i64 0), (i64 ((ls.length : Int) / 2)), (u64 0), (Value.slice none 0 0), (i64 0)] 97 (0, 0)), (bd, .cells #[vl, vp] 94 (0, 0))] ++ (Hl ++ (Hp ++ ([])))) := hm7.upd1 uq8
 refine rw_n (or_storeW (cs := #[(i64 ((ls.length : Int) / 2)), (i64 ((ls.length : Int) / 2)), (u64 0), (Value.slice none 0 0), (i64 0)]) ti97 rfl rfl (by kernel_rfl) (one_arr (one_cons (i64_one _) (one_cons (i64_one _) (one_cons (u64_one _) (one_cons rfl (one_cons (i64_one _) one_nil)))))) hm8.h0 (by kernel_rfl) rfl) ?_
 rintro _ w9 uq9
 have hm9 : Mem w9 R ([(b6, .cells #[(i64 ((ls.length : Int) / 2)), (i64 ((ls.length : Int) / 2)), (u64 0), (Value.slice none 0 0), (i64 0)] 97 (0, 0)), (b5, .cells #[(i64 0), (i64 ((ls.length : Int) / 2)), (u64 0), (Value.slice none 0 0), (i64 0)] 97 (0, 0)), (bd, .cells #[vl, vp] 94 (0, 0))] ++ (Hl ++ (Hp ++ ([])))) := hm8.upd0 uq9
 refine rN (sR ?_)
 refine rw_q rfl (ev_move (v := (ptr bd 0)) rfl) ?_
 have hF11 : Mem w9 R ([(b5, .cells #[(i64 0), (i64 ((ls.length : Int) / 2)), (u64 0), (Value.slice none 0 0), (i64 0)] 97 (0, 0))] ++ ([(b6, .cells #[(i64 ((ls.length : Int) / 2)), (i64 ((ls.length : Int) / 2)), (u64 0), (Value.slice none 0 0), (i64 0)] 97 (0, 0)), (bd, .cells #[vl, vp] 94 (0, 0))] ++ (Hl ++ (Hp ++ ([]))))) := (Mem.pick [_] [_] _ hm9)
 refine rw_c rfl (opR_call Try.func50 bd50 nm50 (args2 rfl rfl) (c_jhread b5 0 ((ls.length : Int) / 2) bd vl ls vp ps _ _ (Mem.give hF11) (Mem.addOwn hF11 (List.mem_append_left _ (List.Mem.tail _ (List.Mem.head _)))) (gl.rdAdd hF11 (fun p hp => (List.mem_append_right _ (List.mem_append_left _ hp)))) (gp.rdAdd hF11 (fun p hp => (List.mem_append_right _ (List.mem_append_right _ (List.mem_append_left _ hp))))) sL sL sL sL)) ?_
 rintro _ w10 ⟨vrq12, rsq12, Hrq12, rfl, hMq12, hLq12, grq12, k_w10⟩
 have hm10 : Mem w10 R ([(b5, .cells #[(i64 0), (i64 ((ls.length : Int) / 2)), (u64 ((readH ls ps 0 ((ls.length : Int) / 2)).gen)), vrq12, (i64 ((readH ls ps 0 ((ls.length : Int) / 2)).at_))] 97 (0, 0))] ++ (Hrq12 ++ ([(b6, .cells #[(i64 ((ls.length : Int) / 2)), (i64 ((ls.length : Int) / 2)), (u64 0), (Value.slice none 0 0), (i64 0)] 97 (0, 0)), (bd, .cells #[vl, vp] 94 (0, 0))] ++ (Hl ++ (Hp ++ ([])))))) := (by
   have hT := Mem.back hF11 k_w10
   try simp only [List.append_assoc, List.cons_append, List.nil_append, List.append_nil] at hT ⊢
   exact hT)
 refine rN ?_
 refine CW.abs (fun g => g 0 = (ptr bd 0) ∧ g 2 = (Value.pointer none) ∧ g 3 = (i64 0) ∧ g 4 = (i64 ((ls.length : Int) / 2)) ∧ g 5 = (ptr b5 0) ∧ g 6 = (ptr b6 0) ∧ g 12 = (bl (decide ((ls.length : Int) < 4))) ∧ True) ⟨rfl, rfl, rfl, rfl, rfl, rfl, rfl, trivial⟩ ?_
 rintro fr13 ⟨s0, s2, s3, s4, s5, s6, s12, _⟩
 refine sR <| rM rfl s0 ?_
 have hF15 : Mem w10 R ([(b6, .cells #[(i64 ((ls.length : Int) / 2)), (i64 ((ls.length : Int) / 2)), (u64 0), (Value.slice none 0 0), (i64 0)] 97 (0, 0))] ++ ([(b5, .cells #[(i64 0), (i64 ((ls.length : Int) / 2)), (u64 ((readH ls ps 0 ((ls.length : Int) / 2)).gen)), vrq12, (i64 ((readH ls ps 0 ((ls.length : Int) / 2)).at_))] 97 (0, 0))] ++ (Hrq12 ++ ([(bd, .cells #[vl, vp] 94 (0, 0))] ++ (Hl ++ (Hp ++ ([]))))))) := (Mem.pick2 [_] Hrq12 [_] _ hm10)
 refine rw_c rfl (opR_call Try.func50 bd50 nm50 (args2 s6 rfl) (c_jhread b6 ((ls.length : Int) / 2) ((ls.length : Int) / 2) bd vl ls vp ps _ _ (Mem.give hF15) (Mem.addOwn hF15 (List.mem_append_right _ (List.mem_append_right _ (List.mem_append_left _ (List.Mem.head _))))) (gl.rdAdd hF15 (fun p hp => (List.mem_append_right _ (List.mem_append_right _ (List.mem_append_right _ (List.mem_append_left _ hp)))))) (gp.rdAdd hF15 (fun p hp => (List.mem_append_right _ (List.mem_append_right _ (List.mem_append_right _ (List.mem_append_right _ (List.mem_append_left _ hp))))))) sL sL sL sL)) ?_
 rintro _ w14 ⟨vrq16, rsq16, Hrq16, rfl, hMq16, hLq16, grq16, k_w14⟩
 have hm14 : Mem w14 R ([(b6, .cells #[(i64 ((ls.length : Int) / 2)), (i64 ((ls.length : Int) / 2)), (u64 ((readH ls ps ((ls.length : Int) / 2) ((ls.length : Int) / 2)).gen)), vrq16, (i64 ((readH ls ps ((ls.length : Int) / 2) ((ls.length : Int) / 2)).at_))] 97 (0, 0))] ++ (Hrq16 ++ ([(b5, .cells #[(i64 0), (i64 ((ls.length : Int) / 2)), (u64 ((readH ls ps 0 ((ls.length : Int) / 2)).gen)), vrq12, (i64 ((readH ls ps 0 ((ls.length : Int) / 2)).at_))] 97 (0, 0))] ++ (Hrq12 ++ ([(bd, .cells #[vl, vp] 94 (0, 0))] ++ (Hl ++ (Hp ++ ([])))))))) := (by
   have hT := Mem.back hF15 k_w14
   try simp only [List.append_assoc, List.cons_append, List.nil_append, List.append_nil] at hT ⊢
   exact hT)
 refine rN (sR ?_)
 refine rM rfl s0 <| rw_q (v := (Value.agg #[(i64 0), (i64 ((ls.length : Int) / 2)), (u64 ((readH ls ps 0 ((ls.length : Int) / 2)).gen)), vrq12, (i64 ((readH ls ps 0 ((ls.length : Int) / 2)).at_))])) rfl (ev_loadW uT97 rfl ti97 s5 ((Mem.pick2 [_] Hrq16 [_] _ hm14)).h0 (by kernel_rfl)) <| rw_q rfl (ev_build_pt (c := #[(ptr bd 0), (i64 0), (i64 ((ls.length : Int) / 2)), (u64 ((readH ls ps 0 ((ls.length : Int) / 2)).gen)), vrq12, (i64 ((readH ls ps 0 ((ls.length : Int) / 2)).at_))]) (pl := [(0, 1), (1, 5)]) ti100 uT100 (by kernel_rfl) (pm_cons (i := 0) (v := (ptr bd 0)) (cs := #[(ptr bd 0)]) rfl rfl (pm_cons (i := 1) (v := (Value.agg #[(i64 0), (i64 ((ls.length : Int) / 2)), (u64 ((readH ls ps 0 ((ls.length : Int) / 2)).gen)), vrq12, (i64 ((readH ls ps 0 ((ls.length : Int) / 2)).at_))])) (cs := #[(i64 0), (i64 ((ls.length : Int) / 2)), (u64 ((readH ls ps 0 ((ls.length : Int) / 2)).gen)), vrq12, (i64 ((readH ls ps 0 ((ls.length : Int) / 2)).at_))]) rfl rfl pm_nil)) (by kernel_rfl)) <| rw_c rfl (or_boxX (cs := #[(ptr bd 0), (i64 0), (i64 ((ls.length : Int) / 2)), (u64 ((readH ls ps 0 ((ls.length : Int) / 2)).gen)), vrq12, (i64 ((readH ls ps 0 ((ls.length : Int) / 2)).at_))]) hm14 rfl) ?_
 rintro _ w17 ⟨b28, rfl, _ew17, hm17⟩
 refine rw_q rfl (ev_assign (v := (ptr b28 0)) rfl) ?_
 refine rN (cw_seq (sR ?_))
 refine rw_q rfl (ev_fa (r := 2) uT97 rfl (by first | rfl | omega) ti95 rfl s6) <| rw_q (v := (u64 ((readH ls ps ((ls.length : Int) / 2) ((ls.length : Int) / 2)).gen))) rfl (ev_load1 uT95 rfl rfl hm17.h1 rfl) <| rw_q rfl (ev_fa (r := 2) uT97 rfl (by first | rfl | omega) ti95 rfl s5) <| rw_q (v := (u64 ((readH ls ps 0 ((ls.length : Int) / 2)).gen))) rfl (ev_load1 uT95 rfl rfl ((Mem.pick2 [_, _] Hrq16 [_] _ hm17)).h0 rfl) <| rw_q rfl (ev_u64_gtr rfl rfl) <| rN ?_
 refine cw_cond rfl (fun hc18 => ?_) (fun hc18 => ?_)
 · -- true
   have hc18p := of_decide_eq_true hc18
   refine cw_region <| rw_q rfl (ev_move (v := (ptr b28 0)) rfl) <| rw_q (v := (Value.agg #[(i64 ((ls.length : Int) / 2)), (i64 ((ls.length : Int) / 2)), (u64 ((readH ls ps ((ls.length : Int) / 2) ((ls.length : Int) / 2)).gen)), vrq16, (i64 ((readH ls ps ((ls.length : Int) / 2) ((ls.length : Int) / 2)).at_))])) rfl (ev_loadW uT97 rfl ti97 s6 hm17.h1 (by kernel_rfl)) <| rw_q rfl (ev_nilCheck rfl) <| rw_q rfl (ev_fa (r := 1) uT100 rfl (by first | rfl | omega) ti97 rfl rfl) <| rw_n (or_storeX (cs := #[(i64 ((ls.length : Int) / 2)), (i64 ((ls.length : Int) / 2)), (u64 ((readH ls ps ((ls.length : Int) / 2) ((ls.length : Int) / 2)).gen)), vrq16, (i64 ((readH ls ps ((ls.length : Int) / 2) ((ls.length : Int) / 2)).at_))]) (c' := #[(ptr bd 0), (i64 ((ls.length : Int) / 2)), (i64 ((ls.length : Int) / 2)), (u64 ((readH ls ps ((ls.length : Int) / 2) ((ls.length : Int) / 2)).gen)), vrq16, (i64 ((readH ls ps ((ls.length : Int) / 2) ((ls.length : Int) / 2)).at_))]) ti97 rfl rfl (by kernel_rfl) (one_arr (one_cons (i64_one _) (one_cons (i64_one _) (one_cons (u64_one _) (one_cons grq16.one (one_cons (i64_one _) one_nil)))))) hm17.h0 (by kernel_rfl) rfl (by kernel_rfl)) ?_
   rintro _ w19 uq19
   have hm19 : Mem w19 R ([(b28, .cells #[(ptr bd 0), (i64 ((ls.length : Int) / 2)), (i64 ((ls.length : Int) / 2)), (u64 ((readH ls ps ((ls.length : Int) / 2) ((ls.length : Int) / 2)).gen)), vrq16, (i64 ((readH ls ps ((ls.length : Int) / 2) ((ls.length : Int) / 2)).at_))] 100 (0, 0)), (b6, .cells #[(i64 ((ls.length : Int) / 2)), (i64 ((ls.length : Int) / 2)), (u64 ((readH ls ps ((ls.length : Int) / 2) ((ls.length : Int) / 2)).gen)), vrq16, (i64 ((readH ls ps ((ls.length : Int) / 2) ((ls.length : Int) / 2)).at_))] 97 (0, 0))] ++ (Hrq16 ++ ([(b5, .cells #[(i64 0), (i64 ((ls.length : Int) / 2)), (u64 ((readH ls ps 0 ((ls.length : Int) / 2)).gen)), vrq12, (i64 ((readH ls ps 0 ((ls.length : Int) / 2)).at_))] 97 (0, 0))] ++ (Hrq12 ++ ([(bd, .cells #[vl, vp] 94 (0, 0))] ++ (Hl ++ (Hp ++ ([])))))))) := hm17.upd0 uq19
   refine rN (cw_seq (sR ?_))
   refine rw_q rfl (ev_move (v := (ptr b28 0)) rfl) <| rw_q rfl (ev_nilCheck rfl) <| rw_q rfl (ev_fa (r := 1) uT100 rfl (by first | rfl | omega) ti97 rfl rfl) <| rw_q rfl (ev_fa (r := 3) uT97 rfl (by first | rfl | omega) ti95 rfl rfl) <| rw_q (v := (u64 ((readH ls ps ((ls.length : Int) / 2) ((ls.length : Int) / 2)).gen))) rfl (ev_load1 uT95 rfl rfl hm19.h0 rfl) <| rw_q rfl (ev_u64_eql (b := 0#64) rfl rfl) ?_
   refine rN ?_
   refine CW.abs (fun g => g 0 = (ptr bd 0) ∧ g 2 = (Value.pointer none) ∧ g 3 = (i64 0) ∧ g 4 = (i64 ((ls.length : Int) / 2)) ∧ g 5 = (ptr b5 0) ∧ g 6 = (ptr b6 0) ∧ g 7 = (ptr b28 0) ∧ g 12 = (bl (decide ((ls.length : Int) < 4))) ∧ g 33 = (bl (decide (((readH ls ps 0 ((ls.length : Int) / 2)).gen).toNat < ((readH ls ps ((ls.length : Int) / 2) ((ls.length : Int) / 2)).gen).toNat))) ∧ g 43 = (bl (((readH ls ps ((ls.length : Int) / 2) ((ls.length : Int) / 2)).gen) == 0#64)) ∧ True) ⟨s0, s2, s3, s4, s5, s6, rfl, s12, rfl, rfl, trivial⟩ ?_
   rintro fr20 ⟨s0, s2, s3, s4, s5, s6, s7, s12, s33, s43, _⟩
   refine cw_cond s43 (fun hc21 => ?_) (fun hc21 => ?_)
   · -- true
     have hc21p := eq_of_beq hc21
     refine cw_region <| rM rfl s7 <| rM rfl s7 <| rM rfl s4 <| rw_c rfl (or_buildSlice_ones [(Value.slice none 0 0)] (by simp [slc, ptr, Value.oneCell', i64, u8, u32, u64, bl]) hm19 uT22 ti23 rfl rfl rfl) ?_
     rintro _ w22 ⟨b47, rfl, _ew22, hm22⟩
     have hm22 : Mem w22 R ([(b47, .cells #[(Value.slice none 0 0)] 23 (0, 0)), (b28, .cells #[(ptr bd 0), (i64 ((ls.length : Int) / 2)), (i64 ((ls.length : Int) / 2)), (u64 ((readH ls ps ((ls.length : Int) / 2) ((ls.length : Int) / 2)).gen)), vrq16, (i64 ((readH ls ps ((ls.length : Int) / 2) ((ls.length : Int) / 2)).at_))] 100 (0, 0)), (b6, .cells #[(i64 ((ls.length : Int) / 2)), (i64 ((ls.length : Int) / 2)), (u64 ((readH ls ps ((ls.length : Int) / 2) ((ls.length : Int) / 2)).gen)), vrq16, (i64 ((readH ls ps ((ls.length : Int) / 2) ((ls.length : Int) / 2)).at_))] 97 (0, 0))] ++ (Hrq16 ++ ([(b5, .cells #[(i64 0), (i64 ((ls.length : Int) / 2)), (u64 ((readH ls ps 0 ((ls.length : Int) / 2)).gen)), vrq12, (i64 ((readH ls ps 0 ((ls.length : Int) / 2)).at_))] 97 (0, 0))] ++ (Hrq12 ++ ([(bd, .cells #[vl, vp] 94 (0, 0))] ++ (Hl ++ (Hp ++ ([])))))))) := hm22
     obtain ⟨HL22, gL22, hmL22⟩ : ∃ q, GrowL mN 23 (slc b47 0 1 1) [toSl (Value.slice none 0 0) ([])] q ∧ Mem w22 R (q ++ ([(b28, .cells #[(ptr bd 0), (i64 ((ls.length : Int) / 2)), (i64 ((ls.length : Int) / 2)), (u64 ((readH ls ps ((ls.length : Int) / 2) ((ls.length : Int) / 2)).gen)), vrq16, (i64 ((readH ls ps ((ls.length : Int) / 2) ((ls.length : Int) / 2)).at_))] 100 (0, 0)), (b6, .cells #[(i64 ((ls.length : Int) / 2)), (i64 ((ls.length : Int) / 2)), (u64 ((readH ls ps ((ls.length : Int) / 2) ((ls.length : Int) / 2)).gen)), vrq16, (i64 ((readH ls ps ((ls.length : Int) / 2) ((ls.length : Int) / 2)).at_))] 97 (0, 0))] ++ (Hrq16 ++ ([(b5, .cells #[(i64 0), (i64 ((ls.length : Int) / 2)), (u64 ((readH ls ps 0 ((ls.length : Int) / 2)).gen)), vrq12, (i64 ((readH ls ps 0 ((ls.length : Int) / 2)).at_))] 97 (0, 0))] ++ (Hrq12 ++ ([(bd, .cells #[vl, vp] 94 (0, 0))] ++ (Hl ++ (Hp ++ ([]))))))))) := ⟨_, GrowL.of1 slv_nil el_nil, (by
       have hT := hm22
       try simp only [List.append_assoc, List.cons_append, List.nil_append, List.append_nil] at hT ⊢
       exact hT)⟩
     refine rw_q rfl (ev_nilCheck rfl) <| rw_q rfl (ev_fa (r := 1) uT100 rfl (by first | rfl | omega) ti97 rfl rfl) <| rw_q rfl (ev_fa (r := 1) uT97 rfl (by first | rfl | omega) ti3 rfl rfl) <| rw_n (or_store1 ti3 rfl rfl (i64_one _) ((Mem.pick HL22 [_] _ hmL22)).h0 (by simp) (.inl (Nat.zero_le _))) ?_
     rintro _ w23 uq23
     have hm23 : Mem w23 R ([(b28, .cells #[(ptr bd 0), (i64 ((ls.length : Int) / 2)), (i64 ((ls.length : Int) / 2)), (u64 ((readH ls ps ((ls.length : Int) / 2) ((ls.length : Int) / 2)).gen)), vrq16, (i64 ((readH ls ps ((ls.length : Int) / 2) ((ls.length : Int) / 2)).at_))] 100 (0, 0))] ++ (HL22 ++ ([(b6, .cells #[(i64 ((ls.length : Int) / 2)), (i64 ((ls.length : Int) / 2)), (u64 ((readH ls ps ((ls.length : Int) / 2) ((ls.length : Int) / 2)).gen)), vrq16, (i64 ((readH ls ps ((ls.length : Int) / 2) ((ls.length : Int) / 2)).at_))] 97 (0, 0))] ++ (Hrq16 ++ ([(b5, .cells #[(i64 0), (i64 ((ls.length : Int) / 2)), (u64 ((readH ls ps 0 ((ls.length : Int) / 2)).gen)), vrq12, (i64 ((readH ls ps 0 ((ls.length : Int) / 2)).at_))] 97 (0, 0))] ++ (Hrq12 ++ ([(bd, .cells #[vl, vp] 94 (0, 0))] ++ (Hl ++ (Hp ++ ([])))))))))) := Mem.upd0 (Mem.pick HL22 [_] _ hmL22) uq23
     refine rw_q rfl (ev_nilCheck rfl) <| rw_q rfl (ev_fa (r := 1) uT100 rfl (by first | rfl | omega) ti97 rfl rfl) <| rw_q rfl (ev_fa (r := 4) uT97 rfl (by first | rfl | omega) ti22 rfl rfl) <| rw_n (or_store1 ti22 rfl rfl gL22.one hm23.h0 (by simp) (.inl (Nat.zero_le _))) ?_
     rintro _ w24 uq24
     have hm24 : Mem w24 R ([(b28, .cells #[(ptr bd 0), (i64 ((ls.length : Int) / 2)), (i64 ((ls.length : Int) / 2)), (u64 ((readH ls ps ((ls.length : Int) / 2) ((ls.length : Int) / 2)).gen)), (slc b47 0 1 1), (i64 ((readH ls ps ((ls.length : Int) / 2) ((ls.length : Int) / 2)).at_))] 100 (0, 0))] ++ (HL22 ++ ([(b6, .cells #[(i64 ((ls.length : Int) / 2)), (i64 ((ls.length : Int) / 2)), (u64 ((readH ls ps ((ls.length : Int) / 2) ((ls.length : Int) / 2)).gen)), vrq16, (i64 ((readH ls ps ((ls.length : Int) / 2) ((ls.length : Int) / 2)).at_))] 97 (0, 0))] ++ (Hrq16 ++ ([(b5, .cells #[(i64 0), (i64 ((ls.length : Int) / 2)), (u64 ((readH ls ps 0 ((ls.length : Int) / 2)).gen)), vrq12, (i64 ((readH ls ps 0 ((ls.length : Int) / 2)).at_))] 97 (0, 0))] ++ (Hrq12 ++ ([(bd, .cells #[vl, vp] 94 (0, 0))] ++ (Hl ++ (Hp ++ ([])))))))))) := hm23.upd0 uq24
     refine rN (cw_seq ?_)
     have hOB : (oldB ls ps) = (((ls.length : Int) / 2), [[]]) := by unfold oldB; simp only [if_pos (of_decide_eq_true hc18), hc21]; rfl
     have hml := nil_map
     have hln : [toSl (Value.slice none 0 0) ([])].length = 1 := rfl
     have hrm : (roomB [[]] : Int) ≤ ((ls.length : Int) / 2) := by rw [room_nil]; omega
     have hel := nil_el
     have hrl := room_len (L := [[]])
     have hmr : ([toSl (Value.slice none 0 0) ([])].map (·.2)) = (oldB ls ps).2 := by rw [hOB]; exact hml
     have hlm := congrArg List.length hml; rw [List.length_map] at hlm
     refine cw_region <| rM rfl s7 <| rM rfl s7 <| rw_q rfl (ev_nilCheck rfl) <| rw_q rfl (ev_fa (r := 1) uT100 rfl (by first | rfl | omega) ti97 rfl rfl) <| rw_q rfl (ev_fa (r := 4) uT97 rfl (by first | rfl | omega) ti22 rfl rfl) ?_
     refine rw_q (v := (slc b47 0 1 1)) rfl (ev_load1 uT22 rfl rfl hm24.h0 rfl) ?_
     have hF26 : Mem w24 R (([(bd, .cells #[vl, vp] 94 (0, 0))] ++ (Hl ++ (Hp ++ ([])))) ++ ([(b28, .cells #[(ptr bd 0), (i64 ((ls.length : Int) / 2)), (i64 ((ls.length : Int) / 2)), (u64 ((readH ls ps ((ls.length : Int) / 2) ((ls.length : Int) / 2)).gen)), (slc b47 0 1 1), (i64 ((readH ls ps ((ls.length : Int) / 2) ((ls.length : Int) / 2)).at_))] 100 (0, 0))] ++ (HL22 ++ ([(b6, .cells #[(i64 ((ls.length : Int) / 2)), (i64 ((ls.length : Int) / 2)), (u64 ((readH ls ps ((ls.length : Int) / 2) ((ls.length : Int) / 2)).gen)), vrq16, (i64 ((readH ls ps ((ls.length : Int) / 2) ((ls.length : Int) / 2)).at_))] 97 (0, 0))] ++ (Hrq16 ++ ([(b5, .cells #[(i64 0), (i64 ((ls.length : Int) / 2)), (u64 ((readH ls ps 0 ((ls.length : Int) / 2)).gen)), vrq12, (i64 ((readH ls ps 0 ((ls.length : Int) / 2)).at_))] 97 (0, 0))] ++ (Hrq12 ++ ([])))))))) := by
       have hT := (Mem.pick8 Hl Hp [_] HL22 [_] Hrq16 [_] Hrq12 [_] _ (Mem.pick8 Hp [_] HL22 [_] Hrq16 [_] Hrq12 [_] Hl _ (Mem.pick8 [_] HL22 [_] Hrq16 [_] Hrq12 [_] Hl Hp _ hm24)))
       try simp only [List.append_assoc, List.cons_append, List.nil_append, List.append_nil] at hT ⊢
       exact hT
     refine rw_c rfl (opR_call Try.func51 bd51 nm51 (args2 rfl rfl) (c_jturn b28 ((ls.length : Int) / 2) ((ls.length : Int) / 2) ((readH ls ps ((ls.length : Int) / 2) ((ls.length : Int) / 2)).gen) (slc b47 0 1 1) ((readH ls ps ((ls.length : Int) / 2) ((ls.length : Int) / 2)).at_) bd vl ls Hl vp ps Hp (slc b47 0 1 1) ([toSl (Value.slice none 0 0) ([])]) _ _ (Mem.give hF26) gl gp (Mem.addOwn hF26 (List.mem_append_left _ (List.Mem.head _))) (GrowL.rdAdd gL22 hF26 (fun p hp => (List.mem_append_right _ (List.mem_append_left _ hp))) nN) oM (map_el hml hel) sL sL hok sL (by rw [hml]; exact hrm) hnew)) ?_
     rintro _ w25 ⟨bnq27, vrq27, rsq27, Hrq27, Hl2q27, vp2q27, Hp2q27, rfl, hMq27, hLq27, grq27, gl2q27, gp2q27, k_w25⟩
     have hm25 : Mem w25 R ([(bnq27, .cells #[(ptr bd 0), (i64 (((ls.length : Int) / 2) - ((ls.length : Int) / 2))), (i64 ((ls.length : Int) / 2)), (u64 (newB ls ps)), vrq27, (i64 (roomB (([toSl (Value.slice none 0 0) ([])]).map (·.2)) : Int))] 100 (0, 0))] ++ (Hrq27 ++ ([(bd, .cells #[vl, vp2q27] 94 (0, 0))] ++ (Hl2q27 ++ (Hp2q27 ++ ([(b28, .cells #[(ptr bd 0), (i64 ((ls.length : Int) / 2)), (i64 ((ls.length : Int) / 2)), (u64 ((readH ls ps ((ls.length : Int) / 2) ((ls.length : Int) / 2)).gen)), (slc b47 0 1 1), (i64 ((readH ls ps ((ls.length : Int) / 2) ((ls.length : Int) / 2)).at_))] 100 (0, 0))] ++ (HL22 ++ ([(b6, .cells #[(i64 ((ls.length : Int) / 2)), (i64 ((ls.length : Int) / 2)), (u64 ((readH ls ps ((ls.length : Int) / 2) ((ls.length : Int) / 2)).gen)), vrq16, (i64 ((readH ls ps ((ls.length : Int) / 2) ((ls.length : Int) / 2)).at_))] 97 (0, 0))] ++ (Hrq16 ++ ([(b5, .cells #[(i64 0), (i64 ((ls.length : Int) / 2)), (u64 ((readH ls ps 0 ((ls.length : Int) / 2)).gen)), vrq12, (i64 ((readH ls ps 0 ((ls.length : Int) / 2)).at_))] 97 (0, 0))] ++ (Hrq12 ++ ([])))))))))))) := (by
       have hT := Mem.back hF26 k_w25
       try simp only [List.append_assoc, List.cons_append, List.nil_append, List.append_nil] at hT ⊢
       exact hT)
     have hTl := turnL_len (ls := ls) (ps := ps) (fr := ((ls.length : Int) / 2) - ((ls.length : Int) / 2)) (g := (newB ls ps)) (L := [toSl (Value.slice none 0 0) ([])].map (·.2))
     have hTp := turnP_len (ls := ls) (ps := ps) (fr := ((ls.length : Int) / 2) - ((ls.length : Int) / 2)) (g := (newB ls ps)) (L := [toSl (Value.slice none 0 0) ([])].map (·.2)) (by rw [List.length_map]; omega)
     have hrm2 : (roomB ([toSl (Value.slice none 0 0) ([])].map (·.2)) : Int) ≤ ((ls.length : Int) / 2) := by rw [hml]; exact hrm
     refine rw_q rfl (ev_move (v := (Value.tuple #[(ptr bnq27 0), (i64 0)])) rfl) <| rw_q (v := (ptr bnq27 0)) rfl (ev_extract rfl rfl) <| rw_q (v := (i64 0)) rfl (ev_extract rfl rfl) <| rw_q rfl (ev_assign (v := (ptr bnq27 0)) rfl) <| rw_q rfl (ev_assign (v := (i64 0)) rfl) <| rN ?_
     refine CW.abs (fun g => g 0 = (ptr bd 0) ∧ g 2 = (Value.pointer none) ∧ g 3 = (i64 0) ∧ g 4 = (i64 ((ls.length : Int) / 2)) ∧ g 5 = (ptr b5 0) ∧ g 6 = (ptr b6 0) ∧ g 7 = (ptr b28 0) ∧ g 8 = (ptr bnq27 0) ∧ g 9 = (i64 0) ∧ g 12 = (bl (decide ((ls.length : Int) < 4))) ∧ g 33 = (bl (decide (((readH ls ps 0 ((ls.length : Int) / 2)).gen).toNat < ((readH ls ps ((ls.length : Int) / 2) ((ls.length : Int) / 2)).gen).toNat))) ∧ g 43 = (bl (((readH ls ps ((ls.length : Int) / 2) ((ls.length : Int) / 2)).gen) == 0#64)) ∧ True) ⟨s0, s2, s3, s4, s5, s6, s7, rfl, rfl, s12, s33, s43, trivial⟩ ?_
     rintro fr28 ⟨s0, s2, s3, s4, s5, s6, s7, s8, s9, s12, s33, s43, _⟩
     refine cw_seq (sR ?_)
     refine rM rfl s9 <| rw_q rfl (ev_i64_neq (b := 0) rfl rfl) <| rN ?_
     have hd29 : (0 != 0) = false := told_ne rfl
     refine cw_cond_f rfl hd29 ?_
     refine cw_skip (kThen_normal (sR ?_))
     refine rM rfl s0 ?_
     have hF31 : Mem w25 R (([(bd, .cells #[vl, vp2q27] 94 (0, 0))] ++ (Hl2q27 ++ (Hp2q27 ++ ([])))) ++ ([(bnq27, .cells #[(ptr bd 0), (i64 (((ls.length : Int) / 2) - ((ls.length : Int) / 2))), (i64 ((ls.length : Int) / 2)), (u64 (newB ls ps)), vrq27, (i64 (roomB (([toSl (Value.slice none 0 0) ([])]).map (·.2)) : Int))] 100 (0, 0))] ++ (Hrq27 ++ ([(b28, .cells #[(ptr bd 0), (i64 ((ls.length : Int) / 2)), (i64 ((ls.length : Int) / 2)), (u64 ((readH ls ps ((ls.length : Int) / 2) ((ls.length : Int) / 2)).gen)), (slc b47 0 1 1), (i64 ((readH ls ps ((ls.length : Int) / 2) ((ls.length : Int) / 2)).at_))] 100 (0, 0))] ++ (HL22 ++ ([(b6, .cells #[(i64 ((ls.length : Int) / 2)), (i64 ((ls.length : Int) / 2)), (u64 ((readH ls ps ((ls.length : Int) / 2) ((ls.length : Int) / 2)).gen)), vrq16, (i64 ((readH ls ps ((ls.length : Int) / 2) ((ls.length : Int) / 2)).at_))] 97 (0, 0))] ++ (Hrq16 ++ ([(b5, .cells #[(i64 0), (i64 ((ls.length : Int) / 2)), (u64 ((readH ls ps 0 ((ls.length : Int) / 2)).gen)), vrq12, (i64 ((readH ls ps 0 ((ls.length : Int) / 2)).at_))] 97 (0, 0))] ++ (Hrq12 ++ ([])))))))))) := by
       have hT := (Mem.pick4 Hl2q27 Hp2q27 [_] Hrq27 [_] _ (Mem.pick4 Hp2q27 [_] Hrq27 [_] Hl2q27 _ (Mem.pick4 [_] Hrq27 [_] Hl2q27 Hp2q27 _ hm25)))
       try simp only [List.append_assoc, List.cons_append, List.nil_append, List.append_nil] at hT ⊢
       exact hT
     refine rw_c rfl (opR_call Try.func46 bd46 nm46 (args1 rfl) (c_dsync bd vl (turnL ls ps (((ls.length : Int) / 2) - ((ls.length : Int) / 2)) (newB ls ps) (([toSl (Value.slice none 0 0) ([])]).map (·.2))) Hl2q27 vp2q27 (turnP ls ps (((ls.length : Int) / 2) - ((ls.length : Int) / 2)) (newB ls ps) (([toSl (Value.slice none 0 0) ([])]).map (·.2))) Hp2q27 _ _ (Mem.give hF31) gl2q27 gp2q27 (okP_hat (okP_turn hok)) sL sL)) ?_
     rintro _ w30 ⟨Hl2q32, rfl, gl2q32, k_w30⟩
     have hm30 : Mem w30 R ([(bd, .cells #[vl, (Value.slice none 0 0)] 94 (0, 0))] ++ (Hl2q32 ++ ([(bnq27, .cells #[(ptr bd 0), (i64 (((ls.length : Int) / 2) - ((ls.length : Int) / 2))), (i64 ((ls.length : Int) / 2)), (u64 (newB ls ps)), vrq27, (i64 (roomB (([toSl (Value.slice none 0 0) ([])]).map (·.2)) : Int))] 100 (0, 0))] ++ (Hrq27 ++ ([(b28, .cells #[(ptr bd 0), (i64 ((ls.length : Int) / 2)), (i64 ((ls.length : Int) / 2)), (u64 ((readH ls ps ((ls.length : Int) / 2) ((ls.length : Int) / 2)).gen)), (slc b47 0 1 1), (i64 ((readH ls ps ((ls.length : Int) / 2) ((ls.length : Int) / 2)).at_))] 100 (0, 0))] ++ (HL22 ++ ([(b6, .cells #[(i64 ((ls.length : Int) / 2)), (i64 ((ls.length : Int) / 2)), (u64 ((readH ls ps ((ls.length : Int) / 2) ((ls.length : Int) / 2)).gen)), vrq16, (i64 ((readH ls ps ((ls.length : Int) / 2) ((ls.length : Int) / 2)).at_))] 97 (0, 0))] ++ (Hrq16 ++ ([(b5, .cells #[(i64 0), (i64 ((ls.length : Int) / 2)), (u64 ((readH ls ps 0 ((ls.length : Int) / 2)).gen)), vrq12, (i64 ((readH ls ps 0 ((ls.length : Int) / 2)).at_))] 97 (0, 0))] ++ (Hrq12 ++ ([]))))))))))) := (by
       have hT := Mem.back hF31 k_w30
       try simp only [List.append_assoc, List.cons_append, List.nil_append, List.append_nil] at hT ⊢
       exact hT)
     refine rN (sR ?_)
     refine rM rfl s8 <| rw_q rfl (ev_assign (v := (ptr bnq27 0)) rfl) <| rw_q rfl (ev_assign (v := (i64 0)) rfl) ?_
     refine rN (cw_ret ?_)
     refine fnPost_ret [(ptr bnq27 0), (i64 0)] ⟨rfl, rfl, trivial⟩ ?_
     have hm33 := Mem.drop ([(b28, .cells #[(ptr bd 0), (i64 ((ls.length : Int) / 2)), (i64 ((ls.length : Int) / 2)), (u64 ((readH ls ps ((ls.length : Int) / 2) ((ls.length : Int) / 2)).gen)), (slc b47 0 1 1), (i64 ((readH ls ps ((ls.length : Int) / 2) ((ls.length : Int) / 2)).at_))] 100 (0, 0))]) _ (Mem.pick4 [_] Hl2q32 [_] Hrq27 [_] _ hm30)
     have hm34 := Mem.drop HL22 _ (Mem.pick4 [_] Hl2q32 [_] Hrq27 HL22 _ hm33)
     have hm35 := Mem.drop ([(b6, .cells #[(i64 ((ls.length : Int) / 2)), (i64 ((ls.length : Int) / 2)), (u64 ((readH ls ps ((ls.length : Int) / 2) ((ls.length : Int) / 2)).gen)), vrq16, (i64 ((readH ls ps ((ls.length : Int) / 2) ((ls.length : Int) / 2)).at_))] 97 (0, 0))]) _ (Mem.pick4 [_] Hl2q32 [_] Hrq27 [_] _ hm34)
     have hm36 := Mem.drop Hrq16 _ (Mem.pick4 [_] Hl2q32 [_] Hrq27 Hrq16 _ hm35)
     have hm37 := Mem.drop ([(b5, .cells #[(i64 0), (i64 ((ls.length : Int) / 2)), (u64 ((readH ls ps 0 ((ls.length : Int) / 2)).gen)), vrq12, (i64 ((readH ls ps 0 ((ls.length : Int) / 2)).at_))] 97 (0, 0))]) _ (Mem.pick4 [_] Hl2q32 [_] Hrq27 [_] _ hm36)
     have hm38 := Mem.drop Hrq12 _ (Mem.pick4 [_] Hl2q32 [_] Hrq27 Hrq12 _ hm37)
     have hm39 := (Mem.pick [_] Hl2q32 _ hm38)
     have hm40 := (Mem.pick Hl2q32 [_] _ hm39)
     have hm41 := (Mem.pick3 [_] Hl2q32 [_] Hrq27 _ hm40)
     have hm42 := (Mem.pick3 Hrq27 [_] Hl2q32 [_] _ hm41)
     have hOB1 := congrArg Prod.fst hOB
     simp only at hOB1
     unfold openD
     rw [hOB1, ← hmr]
     exact ⟨bnq27, vrq27, rsq27, Hrq27, Hl2q32, rfl, hMq27, (by rw [hLq27, List.length_map]), grq27, gl2q32, (by
       have hT := hm42
       try simp only [List.append_assoc, List.cons_append, List.nil_append, List.append_nil] at hT ⊢
       exact hT)⟩
   · -- false
     have hc21p := ne_of_beq_false hc21
     refine cw_skip (kThen_normal (cw_seq ?_))
     have hOB : (oldB ls ps) = (((ls.length : Int) / 2), (readH ls ps ((ls.length : Int) / 2) ((ls.length : Int) / 2)).recs) := by unfold oldB; simp only [if_pos (of_decide_eq_true hc18), hc21]; rfl
     have hml := hMq16
     have hln := hLq16
     have hrm : (roomB (readH ls ps ((ls.length : Int) / 2) ((ls.length : Int) / 2)).recs : Int) ≤ ((ls.length : Int) / 2) := by have h1 := hI2.room; have h2 := hI2.at1; omega
     have hel : ∀ b ∈ (readH ls ps ((ls.length : Int) / 2) ((ls.length : Int) / 2)).recs, b.length ≤ 84000 := fun b hb => by have h1 := hI2.el b hb; omega
     have hpo := hI2.gen hc21
     have hrl := room_len (L := (readH ls ps ((ls.length : Int) / 2) ((ls.length : Int) / 2)).recs)
     have hmr : (rsq16.map (·.2)) = (oldB ls ps).2 := by rw [hOB]; exact hml
     have hlm := congrArg List.length hml; rw [List.length_map] at hlm
     refine cw_region <| rM rfl s7 <| rM rfl s7 <| rw_q rfl (ev_nilCheck rfl) <| rw_q rfl (ev_fa (r := 1) uT100 rfl (by first | rfl | omega) ti97 rfl rfl) <| rw_q rfl (ev_fa (r := 4) uT97 rfl (by first | rfl | omega) ti22 rfl rfl) ?_
     refine rw_q (v := vrq16) rfl (ev_load1 uT22 rfl rfl hm19.h0 rfl) ?_
     have hF44 : Mem w19 R (([(bd, .cells #[vl, vp] 94 (0, 0))] ++ (Hl ++ (Hp ++ ([])))) ++ ([(b28, .cells #[(ptr bd 0), (i64 ((ls.length : Int) / 2)), (i64 ((ls.length : Int) / 2)), (u64 ((readH ls ps ((ls.length : Int) / 2) ((ls.length : Int) / 2)).gen)), vrq16, (i64 ((readH ls ps ((ls.length : Int) / 2) ((ls.length : Int) / 2)).at_))] 100 (0, 0)), (b6, .cells #[(i64 ((ls.length : Int) / 2)), (i64 ((ls.length : Int) / 2)), (u64 ((readH ls ps ((ls.length : Int) / 2) ((ls.length : Int) / 2)).gen)), vrq16, (i64 ((readH ls ps ((ls.length : Int) / 2) ((ls.length : Int) / 2)).at_))] 97 (0, 0))] ++ (Hrq16 ++ ([(b5, .cells #[(i64 0), (i64 ((ls.length : Int) / 2)), (u64 ((readH ls ps 0 ((ls.length : Int) / 2)).gen)), vrq12, (i64 ((readH ls ps 0 ((ls.length : Int) / 2)).at_))] 97 (0, 0))] ++ (Hrq12 ++ ([])))))) := by
       have hT := (Mem.pick6 Hl Hp [_, _] Hrq16 [_] Hrq12 [_] _ (Mem.pick6 Hp [_, _] Hrq16 [_] Hrq12 [_] Hl _ (Mem.pick6 [_, _] Hrq16 [_] Hrq12 [_] Hl Hp _ hm19)))
       try simp only [List.append_assoc, List.cons_append, List.nil_append, List.append_nil] at hT ⊢
       exact hT
     refine rw_c rfl (opR_call Try.func51 bd51 nm51 (args2 rfl rfl) (c_jturn b28 ((ls.length : Int) / 2) ((ls.length : Int) / 2) ((readH ls ps ((ls.length : Int) / 2) ((ls.length : Int) / 2)).gen) vrq16 ((readH ls ps ((ls.length : Int) / 2) ((ls.length : Int) / 2)).at_) bd vl ls Hl vp ps Hp vrq16 rsq16 _ _ (Mem.give hF44) gl gp (Mem.addOwn hF44 (List.mem_append_left _ (List.Mem.head _))) (GrowL.rdAdd grq16 hF44 (fun p hp => (List.mem_append_right _ (List.mem_append_left _ hp))) nN) oM (map_el hml hel) sL sL hok sL (by rw [hml]; exact hrm) hnew)) ?_
     rintro _ w43 ⟨bnq45, vrq45, rsq45, Hrq45, Hl2q45, vp2q45, Hp2q45, rfl, hMq45, hLq45, grq45, gl2q45, gp2q45, k_w43⟩
     have hm43 : Mem w43 R ([(bnq45, .cells #[(ptr bd 0), (i64 (((ls.length : Int) / 2) - ((ls.length : Int) / 2))), (i64 ((ls.length : Int) / 2)), (u64 (newB ls ps)), vrq45, (i64 (roomB (rsq16.map (·.2)) : Int))] 100 (0, 0))] ++ (Hrq45 ++ ([(bd, .cells #[vl, vp2q45] 94 (0, 0))] ++ (Hl2q45 ++ (Hp2q45 ++ ([(b28, .cells #[(ptr bd 0), (i64 ((ls.length : Int) / 2)), (i64 ((ls.length : Int) / 2)), (u64 ((readH ls ps ((ls.length : Int) / 2) ((ls.length : Int) / 2)).gen)), vrq16, (i64 ((readH ls ps ((ls.length : Int) / 2) ((ls.length : Int) / 2)).at_))] 100 (0, 0)), (b6, .cells #[(i64 ((ls.length : Int) / 2)), (i64 ((ls.length : Int) / 2)), (u64 ((readH ls ps ((ls.length : Int) / 2) ((ls.length : Int) / 2)).gen)), vrq16, (i64 ((readH ls ps ((ls.length : Int) / 2) ((ls.length : Int) / 2)).at_))] 97 (0, 0))] ++ (Hrq16 ++ ([(b5, .cells #[(i64 0), (i64 ((ls.length : Int) / 2)), (u64 ((readH ls ps 0 ((ls.length : Int) / 2)).gen)), vrq12, (i64 ((readH ls ps 0 ((ls.length : Int) / 2)).at_))] 97 (0, 0))] ++ (Hrq12 ++ ([])))))))))) := (by
       have hT := Mem.back hF44 k_w43
       try simp only [List.append_assoc, List.cons_append, List.nil_append, List.append_nil] at hT ⊢
       exact hT)
     have hTl := turnL_len (ls := ls) (ps := ps) (fr := ((ls.length : Int) / 2) - ((ls.length : Int) / 2)) (g := (newB ls ps)) (L := rsq16.map (·.2))
     have hTp := turnP_len (ls := ls) (ps := ps) (fr := ((ls.length : Int) / 2) - ((ls.length : Int) / 2)) (g := (newB ls ps)) (L := rsq16.map (·.2)) (by rw [List.length_map]; omega)
     have hrm2 : (roomB (rsq16.map (·.2)) : Int) ≤ ((ls.length : Int) / 2) := by rw [hml]; exact hrm
     refine rw_q rfl (ev_move (v := (Value.tuple #[(ptr bnq45 0), (i64 0)])) rfl) <| rw_q (v := (ptr bnq45 0)) rfl (ev_extract rfl rfl) <| rw_q (v := (i64 0)) rfl (ev_extract rfl rfl) <| rw_q rfl (ev_assign (v := (ptr bnq45 0)) rfl) <| rw_q rfl (ev_assign (v := (i64 0)) rfl) ?_
     refine rN (cw_seq (sR ?_))
     refine rw_q rfl (ev_move (v := (i64 0)) rfl) <| rw_q rfl (ev_i64_neq (b := 0) rfl rfl) <| rN ?_
     have hd46 : (0 != 0) = false := told_ne rfl
     refine cw_cond_f rfl hd46 ?_
     refine cw_skip (kThen_normal (sR ?_))
     refine rM rfl s0 ?_
     have hF48 : Mem w43 R (([(bd, .cells #[vl, vp2q45] 94 (0, 0))] ++ (Hl2q45 ++ (Hp2q45 ++ ([])))) ++ ([(bnq45, .cells #[(ptr bd 0), (i64 (((ls.length : Int) / 2) - ((ls.length : Int) / 2))), (i64 ((ls.length : Int) / 2)), (u64 (newB ls ps)), vrq45, (i64 (roomB (rsq16.map (·.2)) : Int))] 100 (0, 0))] ++ (Hrq45 ++ ([(b28, .cells #[(ptr bd 0), (i64 ((ls.length : Int) / 2)), (i64 ((ls.length : Int) / 2)), (u64 ((readH ls ps ((ls.length : Int) / 2) ((ls.length : Int) / 2)).gen)), vrq16, (i64 ((readH ls ps ((ls.length : Int) / 2) ((ls.length : Int) / 2)).at_))] 100 (0, 0)), (b6, .cells #[(i64 ((ls.length : Int) / 2)), (i64 ((ls.length : Int) / 2)), (u64 ((readH ls ps ((ls.length : Int) / 2) ((ls.length : Int) / 2)).gen)), vrq16, (i64 ((readH ls ps ((ls.length : Int) / 2) ((ls.length : Int) / 2)).at_))] 97 (0, 0))] ++ (Hrq16 ++ ([(b5, .cells #[(i64 0), (i64 ((ls.length : Int) / 2)), (u64 ((readH ls ps 0 ((ls.length : Int) / 2)).gen)), vrq12, (i64 ((readH ls ps 0 ((ls.length : Int) / 2)).at_))] 97 (0, 0))] ++ (Hrq12 ++ ([])))))))) := by
       have hT := (Mem.pick4 Hl2q45 Hp2q45 [_] Hrq45 [_] _ (Mem.pick4 Hp2q45 [_] Hrq45 [_] Hl2q45 _ (Mem.pick4 [_] Hrq45 [_] Hl2q45 Hp2q45 _ hm43)))
       try simp only [List.append_assoc, List.cons_append, List.nil_append, List.append_nil] at hT ⊢
       exact hT
     refine rw_c rfl (opR_call Try.func46 bd46 nm46 (args1 rfl) (c_dsync bd vl (turnL ls ps (((ls.length : Int) / 2) - ((ls.length : Int) / 2)) (newB ls ps) (rsq16.map (·.2))) Hl2q45 vp2q45 (turnP ls ps (((ls.length : Int) / 2) - ((ls.length : Int) / 2)) (newB ls ps) (rsq16.map (·.2))) Hp2q45 _ _ (Mem.give hF48) gl2q45 gp2q45 (okP_hat (okP_turn hok)) sL sL)) ?_
     rintro _ w47 ⟨Hl2q49, rfl, gl2q49, k_w47⟩
     have hm47 : Mem w47 R ([(bd, .cells #[vl, (Value.slice none 0 0)] 94 (0, 0))] ++ (Hl2q49 ++ ([(bnq45, .cells #[(ptr bd 0), (i64 (((ls.length : Int) / 2) - ((ls.length : Int) / 2))), (i64 ((ls.length : Int) / 2)), (u64 (newB ls ps)), vrq45, (i64 (roomB (rsq16.map (·.2)) : Int))] 100 (0, 0))] ++ (Hrq45 ++ ([(b28, .cells #[(ptr bd 0), (i64 ((ls.length : Int) / 2)), (i64 ((ls.length : Int) / 2)), (u64 ((readH ls ps ((ls.length : Int) / 2) ((ls.length : Int) / 2)).gen)), vrq16, (i64 ((readH ls ps ((ls.length : Int) / 2) ((ls.length : Int) / 2)).at_))] 100 (0, 0)), (b6, .cells #[(i64 ((ls.length : Int) / 2)), (i64 ((ls.length : Int) / 2)), (u64 ((readH ls ps ((ls.length : Int) / 2) ((ls.length : Int) / 2)).gen)), vrq16, (i64 ((readH ls ps ((ls.length : Int) / 2) ((ls.length : Int) / 2)).at_))] 97 (0, 0))] ++ (Hrq16 ++ ([(b5, .cells #[(i64 0), (i64 ((ls.length : Int) / 2)), (u64 ((readH ls ps 0 ((ls.length : Int) / 2)).gen)), vrq12, (i64 ((readH ls ps 0 ((ls.length : Int) / 2)).at_))] 97 (0, 0))] ++ (Hrq12 ++ ([]))))))))) := (by
       have hT := Mem.back hF48 k_w47
       try simp only [List.append_assoc, List.cons_append, List.nil_append, List.append_nil] at hT ⊢
       exact hT)
     refine rN (sR ?_)
     refine rw_q rfl (ev_move (v := (ptr bnq45 0)) rfl) <| rw_q rfl (ev_assign (v := (ptr bnq45 0)) rfl) <| rw_q rfl (ev_assign (v := (i64 0)) rfl) <| rN ?_
     refine CW.abs (fun g => g 0 = (ptr bd 0) ∧ g 2 = (ptr bnq45 0) ∧ g 3 = (i64 0) ∧ g 4 = (i64 ((ls.length : Int) / 2)) ∧ g 5 = (ptr b5 0) ∧ g 6 = (ptr b6 0) ∧ g 7 = (ptr b28 0) ∧ g 8 = (ptr bnq45 0) ∧ g 9 = (i64 0) ∧ g 12 = (bl (decide ((ls.length : Int) < 4))) ∧ g 33 = (bl (decide (((readH ls ps 0 ((ls.length : Int) / 2)).gen).toNat < ((readH ls ps ((ls.length : Int) / 2) ((ls.length : Int) / 2)).gen).toNat))) ∧ g 43 = (bl (((readH ls ps ((ls.length : Int) / 2) ((ls.length : Int) / 2)).gen) == 0#64)) ∧ g 65 = (bl (0 != 0)) ∧ True) ⟨s0, rfl, rfl, s4, s5, s6, s7, rfl, rfl, s12, s33, s43, rfl, trivial⟩ ?_
     rintro fr50 ⟨s0, s2, s3, s4, s5, s6, s7, s8, s9, s12, s33, s43, s65, _⟩
     refine cw_ret <| fnPost_ret [(ptr bnq45 0), (i64 0)] ⟨s2, s3, trivial⟩ ?_
     have hm51 := Mem.drop ([(b28, .cells #[(ptr bd 0), (i64 ((ls.length : Int) / 2)), (i64 ((ls.length : Int) / 2)), (u64 ((readH ls ps ((ls.length : Int) / 2) ((ls.length : Int) / 2)).gen)), vrq16, (i64 ((readH ls ps ((ls.length : Int) / 2) ((ls.length : Int) / 2)).at_))] 100 (0, 0))]) _ (Mem.pick4 [_] Hl2q49 [_] Hrq45 [_] _ hm47)
     have hm52 := Mem.drop ([(b6, .cells #[(i64 ((ls.length : Int) / 2)), (i64 ((ls.length : Int) / 2)), (u64 ((readH ls ps ((ls.length : Int) / 2) ((ls.length : Int) / 2)).gen)), vrq16, (i64 ((readH ls ps ((ls.length : Int) / 2) ((ls.length : Int) / 2)).at_))] 97 (0, 0))]) _ (Mem.pick4 [_] Hl2q49 [_] Hrq45 [_] _ hm51)
     have hm53 := Mem.drop Hrq16 _ (Mem.pick4 [_] Hl2q49 [_] Hrq45 Hrq16 _ hm52)
     have hm54 := Mem.drop ([(b5, .cells #[(i64 0), (i64 ((ls.length : Int) / 2)), (u64 ((readH ls ps 0 ((ls.length : Int) / 2)).gen)), vrq12, (i64 ((readH ls ps 0 ((ls.length : Int) / 2)).at_))] 97 (0, 0))]) _ (Mem.pick4 [_] Hl2q49 [_] Hrq45 [_] _ hm53)
     have hm55 := Mem.drop Hrq12 _ (Mem.pick4 [_] Hl2q49 [_] Hrq45 Hrq12 _ hm54)
     have hm56 := (Mem.pick [_] Hl2q49 _ hm55)
     have hm57 := (Mem.pick Hl2q49 [_] _ hm56)
     have hm58 := (Mem.pick3 [_] Hl2q49 [_] Hrq45 _ hm57)
     have hm59 := (Mem.pick3 Hrq45 [_] Hl2q49 [_] _ hm58)
     have hOB1 := congrArg Prod.fst hOB
     simp only at hOB1
     unfold openD
     rw [hOB1, ← hmr]
     exact ⟨bnq45, vrq45, rsq45, Hrq45, Hl2q49, rfl, hMq45, (by rw [hLq45, List.length_map]), grq45, gl2q49, (by
       have hT := hm59
       try simp only [List.append_assoc, List.cons_append, List.nil_append, List.append_nil] at hT ⊢
       exact hT)⟩
 · -- false
   have hc18p := of_decide_eq_false hc18
   refine cw_skip (kThen_normal (cw_seq (sR ?_)))
   refine rw_q rfl (ev_move (v := (ptr b28 0)) rfl) <| rw_q rfl (ev_nilCheck rfl) <| rw_q rfl (ev_fa (r := 1) uT100 rfl (by first | rfl | omega) ti97 rfl rfl) <| rw_q rfl (ev_fa (r := 3) uT97 rfl (by first | rfl | omega) ti95 rfl rfl) <| rw_q (v := (u64 ((readH ls ps 0 ((ls.length : Int) / 2)).gen))) rfl (ev_load1 uT95 rfl rfl hm17.h0 rfl) <| rw_q rfl (ev_u64_eql (b := 0#64) rfl rfl) ?_
   refine rN ?_
   refine CW.abs (fun g => g 0 = (ptr bd 0) ∧ g 2 = (Value.pointer none) ∧ g 3 = (i64 0) ∧ g 4 = (i64 ((ls.length : Int) / 2)) ∧ g 5 = (ptr b5 0) ∧ g 6 = (ptr b6 0) ∧ g 7 = (ptr b28 0) ∧ g 12 = (bl (decide ((ls.length : Int) < 4))) ∧ g 33 = (bl (decide (((readH ls ps 0 ((ls.length : Int) / 2)).gen).toNat < ((readH ls ps ((ls.length : Int) / 2) ((ls.length : Int) / 2)).gen).toNat))) ∧ g 43 = (bl (((readH ls ps 0 ((ls.length : Int) / 2)).gen) == 0#64)) ∧ True) ⟨s0, s2, s3, s4, s5, s6, rfl, s12, rfl, rfl, trivial⟩ ?_
   rintro fr60 ⟨s0, s2, s3, s4, s5, s6, s7, s12, s33, s43, _⟩
   refine cw_cond s43 (fun hc61 => ?_) (fun hc61 => ?_)
   · -- true
     have hc61p := eq_of_beq hc61
     refine cw_region <| rM rfl s7 <| rM rfl s7 <| rM rfl s4 <| rw_c rfl (or_buildSlice_ones [(Value.slice none 0 0)] (by simp [slc, ptr, Value.oneCell', i64, u8, u32, u64, bl]) hm17 uT22 ti23 rfl rfl rfl) ?_
     rintro _ w62 ⟨b47_1, rfl, _ew62, hm62⟩
     have hm62 : Mem w62 R ([(b47_1, .cells #[(Value.slice none 0 0)] 23 (0, 0)), (b28, .cells #[(ptr bd 0), (i64 0), (i64 ((ls.length : Int) / 2)), (u64 ((readH ls ps 0 ((ls.length : Int) / 2)).gen)), vrq12, (i64 ((readH ls ps 0 ((ls.length : Int) / 2)).at_))] 100 (0, 0)), (b6, .cells #[(i64 ((ls.length : Int) / 2)), (i64 ((ls.length : Int) / 2)), (u64 ((readH ls ps ((ls.length : Int) / 2) ((ls.length : Int) / 2)).gen)), vrq16, (i64 ((readH ls ps ((ls.length : Int) / 2) ((ls.length : Int) / 2)).at_))] 97 (0, 0))] ++ (Hrq16 ++ ([(b5, .cells #[(i64 0), (i64 ((ls.length : Int) / 2)), (u64 ((readH ls ps 0 ((ls.length : Int) / 2)).gen)), vrq12, (i64 ((readH ls ps 0 ((ls.length : Int) / 2)).at_))] 97 (0, 0))] ++ (Hrq12 ++ ([(bd, .cells #[vl, vp] 94 (0, 0))] ++ (Hl ++ (Hp ++ ([])))))))) := hm62
     obtain ⟨HL62, gL62, hmL62⟩ : ∃ q, GrowL mN 23 (slc b47_1 0 1 1) [toSl (Value.slice none 0 0) ([])] q ∧ Mem w62 R (q ++ ([(b28, .cells #[(ptr bd 0), (i64 0), (i64 ((ls.length : Int) / 2)), (u64 ((readH ls ps 0 ((ls.length : Int) / 2)).gen)), vrq12, (i64 ((readH ls ps 0 ((ls.length : Int) / 2)).at_))] 100 (0, 0)), (b6, .cells #[(i64 ((ls.length : Int) / 2)), (i64 ((ls.length : Int) / 2)), (u64 ((readH ls ps ((ls.length : Int) / 2) ((ls.length : Int) / 2)).gen)), vrq16, (i64 ((readH ls ps ((ls.length : Int) / 2) ((ls.length : Int) / 2)).at_))] 97 (0, 0))] ++ (Hrq16 ++ ([(b5, .cells #[(i64 0), (i64 ((ls.length : Int) / 2)), (u64 ((readH ls ps 0 ((ls.length : Int) / 2)).gen)), vrq12, (i64 ((readH ls ps 0 ((ls.length : Int) / 2)).at_))] 97 (0, 0))] ++ (Hrq12 ++ ([(bd, .cells #[vl, vp] 94 (0, 0))] ++ (Hl ++ (Hp ++ ([]))))))))) := ⟨_, GrowL.of1 slv_nil el_nil, (by
       have hT := hm62
       try simp only [List.append_assoc, List.cons_append, List.nil_append, List.append_nil] at hT ⊢
       exact hT)⟩
     refine rw_q rfl (ev_nilCheck rfl) <| rw_q rfl (ev_fa (r := 1) uT100 rfl (by first | rfl | omega) ti97 rfl rfl) <| rw_q rfl (ev_fa (r := 1) uT97 rfl (by first | rfl | omega) ti3 rfl rfl) <| rw_n (or_store1 ti3 rfl rfl (i64_one _) ((Mem.pick HL62 [_] _ hmL62)).h0 (by simp) (.inl (Nat.zero_le _))) ?_
     rintro _ w63 uq63
     have hm63 : Mem w63 R ([(b28, .cells #[(ptr bd 0), (i64 ((ls.length : Int) / 2)), (i64 ((ls.length : Int) / 2)), (u64 ((readH ls ps 0 ((ls.length : Int) / 2)).gen)), vrq12, (i64 ((readH ls ps 0 ((ls.length : Int) / 2)).at_))] 100 (0, 0))] ++ (HL62 ++ ([(b6, .cells #[(i64 ((ls.length : Int) / 2)), (i64 ((ls.length : Int) / 2)), (u64 ((readH ls ps ((ls.length : Int) / 2) ((ls.length : Int) / 2)).gen)), vrq16, (i64 ((readH ls ps ((ls.length : Int) / 2) ((ls.length : Int) / 2)).at_))] 97 (0, 0))] ++ (Hrq16 ++ ([(b5, .cells #[(i64 0), (i64 ((ls.length : Int) / 2)), (u64 ((readH ls ps 0 ((ls.length : Int) / 2)).gen)), vrq12, (i64 ((readH ls ps 0 ((ls.length : Int) / 2)).at_))] 97 (0, 0))] ++ (Hrq12 ++ ([(bd, .cells #[vl, vp] 94 (0, 0))] ++ (Hl ++ (Hp ++ ([])))))))))) := Mem.upd0 (Mem.pick HL62 [_] _ hmL62) uq63
     refine rw_q rfl (ev_nilCheck rfl) <| rw_q rfl (ev_fa (r := 1) uT100 rfl (by first | rfl | omega) ti97 rfl rfl) <| rw_q rfl (ev_fa (r := 4) uT97 rfl (by first | rfl | omega) ti22 rfl rfl) <| rw_n (or_store1 ti22 rfl rfl gL62.one hm63.h0 (by simp) (.inl (Nat.zero_le _))) ?_
     rintro _ w64 uq64
     have hm64 : Mem w64 R ([(b28, .cells #[(ptr bd 0), (i64 ((ls.length : Int) / 2)), (i64 ((ls.length : Int) / 2)), (u64 ((readH ls ps 0 ((ls.length : Int) / 2)).gen)), (slc b47_1 0 1 1), (i64 ((readH ls ps 0 ((ls.length : Int) / 2)).at_))] 100 (0, 0))] ++ (HL62 ++ ([(b6, .cells #[(i64 ((ls.length : Int) / 2)), (i64 ((ls.length : Int) / 2)), (u64 ((readH ls ps ((ls.length : Int) / 2) ((ls.length : Int) / 2)).gen)), vrq16, (i64 ((readH ls ps ((ls.length : Int) / 2) ((ls.length : Int) / 2)).at_))] 97 (0, 0))] ++ (Hrq16 ++ ([(b5, .cells #[(i64 0), (i64 ((ls.length : Int) / 2)), (u64 ((readH ls ps 0 ((ls.length : Int) / 2)).gen)), vrq12, (i64 ((readH ls ps 0 ((ls.length : Int) / 2)).at_))] 97 (0, 0))] ++ (Hrq12 ++ ([(bd, .cells #[vl, vp] 94 (0, 0))] ++ (Hl ++ (Hp ++ ([])))))))))) := hm63.upd0 uq64
     refine rN (cw_seq ?_)
     have hOB : (oldB ls ps) = (((ls.length : Int) / 2), [[]]) := by unfold oldB; simp only [if_neg (of_decide_eq_false hc18), hc61]; rfl
     have hml := nil_map
     have hln : [toSl (Value.slice none 0 0) ([])].length = 1 := rfl
     have hrm : (roomB [[]] : Int) ≤ ((ls.length : Int) / 2) := by rw [room_nil]; omega
     have hel := nil_el
     have hrl := room_len (L := [[]])
     have hmr : ([toSl (Value.slice none 0 0) ([])].map (·.2)) = (oldB ls ps).2 := by rw [hOB]; exact hml
     have hlm := congrArg List.length hml; rw [List.length_map] at hlm
     refine cw_region <| rM rfl s7 <| rM rfl s7 <| rw_q rfl (ev_nilCheck rfl) <| rw_q rfl (ev_fa (r := 1) uT100 rfl (by first | rfl | omega) ti97 rfl rfl) <| rw_q rfl (ev_fa (r := 4) uT97 rfl (by first | rfl | omega) ti22 rfl rfl) ?_
     refine rw_q (v := (slc b47_1 0 1 1)) rfl (ev_load1 uT22 rfl rfl hm64.h0 rfl) ?_
     have hF66 : Mem w64 R (([(bd, .cells #[vl, vp] 94 (0, 0))] ++ (Hl ++ (Hp ++ ([])))) ++ ([(b28, .cells #[(ptr bd 0), (i64 ((ls.length : Int) / 2)), (i64 ((ls.length : Int) / 2)), (u64 ((readH ls ps 0 ((ls.length : Int) / 2)).gen)), (slc b47_1 0 1 1), (i64 ((readH ls ps 0 ((ls.length : Int) / 2)).at_))] 100 (0, 0))] ++ (HL62 ++ ([(b6, .cells #[(i64 ((ls.length : Int) / 2)), (i64 ((ls.length : Int) / 2)), (u64 ((readH ls ps ((ls.length : Int) / 2) ((ls.length : Int) / 2)).gen)), vrq16, (i64 ((readH ls ps ((ls.length : Int) / 2) ((ls.length : Int) / 2)).at_))] 97 (0, 0))] ++ (Hrq16 ++ ([(b5, .cells #[(i64 0), (i64 ((ls.length : Int) / 2)), (u64 ((readH ls ps 0 ((ls.length : Int) / 2)).gen)), vrq12, (i64 ((readH ls ps 0 ((ls.length : Int) / 2)).at_))] 97 (0, 0))] ++ (Hrq12 ++ ([])))))))) := by
       have hT := (Mem.pick8 Hl Hp [_] HL62 [_] Hrq16 [_] Hrq12 [_] _ (Mem.pick8 Hp [_] HL62 [_] Hrq16 [_] Hrq12 [_] Hl _ (Mem.pick8 [_] HL62 [_] Hrq16 [_] Hrq12 [_] Hl Hp _ hm64)))
       try simp only [List.append_assoc, List.cons_append, List.nil_append, List.append_nil] at hT ⊢
       exact hT
     refine rw_c rfl (opR_call Try.func51 bd51 nm51 (args2 rfl rfl) (c_jturn b28 ((ls.length : Int) / 2) ((ls.length : Int) / 2) ((readH ls ps 0 ((ls.length : Int) / 2)).gen) (slc b47_1 0 1 1) ((readH ls ps 0 ((ls.length : Int) / 2)).at_) bd vl ls Hl vp ps Hp (slc b47_1 0 1 1) ([toSl (Value.slice none 0 0) ([])]) _ _ (Mem.give hF66) gl gp (Mem.addOwn hF66 (List.mem_append_left _ (List.Mem.head _))) (GrowL.rdAdd gL62 hF66 (fun p hp => (List.mem_append_right _ (List.mem_append_left _ hp))) nN) oM (map_el hml hel) sL sL hok sL (by rw [hml]; exact hrm) hnew)) ?_
     rintro _ w65 ⟨bnq67, vrq67, rsq67, Hrq67, Hl2q67, vp2q67, Hp2q67, rfl, hMq67, hLq67, grq67, gl2q67, gp2q67, k_w65⟩
     have hm65 : Mem w65 R ([(bnq67, .cells #[(ptr bd 0), (i64 (((ls.length : Int) / 2) - ((ls.length : Int) / 2))), (i64 ((ls.length : Int) / 2)), (u64 (newB ls ps)), vrq67, (i64 (roomB (([toSl (Value.slice none 0 0) ([])]).map (·.2)) : Int))] 100 (0, 0))] ++ (Hrq67 ++ ([(bd, .cells #[vl, vp2q67] 94 (0, 0))] ++ (Hl2q67 ++ (Hp2q67 ++ ([(b28, .cells #[(ptr bd 0), (i64 ((ls.length : Int) / 2)), (i64 ((ls.length : Int) / 2)), (u64 ((readH ls ps 0 ((ls.length : Int) / 2)).gen)), (slc b47_1 0 1 1), (i64 ((readH ls ps 0 ((ls.length : Int) / 2)).at_))] 100 (0, 0))] ++ (HL62 ++ ([(b6, .cells #[(i64 ((ls.length : Int) / 2)), (i64 ((ls.length : Int) / 2)), (u64 ((readH ls ps ((ls.length : Int) / 2) ((ls.length : Int) / 2)).gen)), vrq16, (i64 ((readH ls ps ((ls.length : Int) / 2) ((ls.length : Int) / 2)).at_))] 97 (0, 0))] ++ (Hrq16 ++ ([(b5, .cells #[(i64 0), (i64 ((ls.length : Int) / 2)), (u64 ((readH ls ps 0 ((ls.length : Int) / 2)).gen)), vrq12, (i64 ((readH ls ps 0 ((ls.length : Int) / 2)).at_))] 97 (0, 0))] ++ (Hrq12 ++ ([])))))))))))) := (by
       have hT := Mem.back hF66 k_w65
       try simp only [List.append_assoc, List.cons_append, List.nil_append, List.append_nil] at hT ⊢
       exact hT)
     have hTl := turnL_len (ls := ls) (ps := ps) (fr := ((ls.length : Int) / 2) - ((ls.length : Int) / 2)) (g := (newB ls ps)) (L := [toSl (Value.slice none 0 0) ([])].map (·.2))
     have hTp := turnP_len (ls := ls) (ps := ps) (fr := ((ls.length : Int) / 2) - ((ls.length : Int) / 2)) (g := (newB ls ps)) (L := [toSl (Value.slice none 0 0) ([])].map (·.2)) (by rw [List.length_map]; omega)
     have hrm2 : (roomB ([toSl (Value.slice none 0 0) ([])].map (·.2)) : Int) ≤ ((ls.length : Int) / 2) := by rw [hml]; exact hrm
     refine rw_q rfl (ev_move (v := (Value.tuple #[(ptr bnq67 0), (i64 0)])) rfl) <| rw_q (v := (ptr bnq67 0)) rfl (ev_extract rfl rfl) <| rw_q (v := (i64 0)) rfl (ev_extract rfl rfl) <| rw_q rfl (ev_assign (v := (ptr bnq67 0)) rfl) <| rw_q rfl (ev_assign (v := (i64 0)) rfl) <| rN ?_
     refine CW.abs (fun g => g 0 = (ptr bd 0) ∧ g 2 = (Value.pointer none) ∧ g 3 = (i64 0) ∧ g 4 = (i64 ((ls.length : Int) / 2)) ∧ g 5 = (ptr b5 0) ∧ g 6 = (ptr b6 0) ∧ g 7 = (ptr b28 0) ∧ g 8 = (ptr bnq67 0) ∧ g 9 = (i64 0) ∧ g 12 = (bl (decide ((ls.length : Int) < 4))) ∧ g 33 = (bl (decide (((readH ls ps 0 ((ls.length : Int) / 2)).gen).toNat < ((readH ls ps ((ls.length : Int) / 2) ((ls.length : Int) / 2)).gen).toNat))) ∧ g 43 = (bl (((readH ls ps 0 ((ls.length : Int) / 2)).gen) == 0#64)) ∧ True) ⟨s0, s2, s3, s4, s5, s6, s7, rfl, rfl, s12, s33, s43, trivial⟩ ?_
     rintro fr68 ⟨s0, s2, s3, s4, s5, s6, s7, s8, s9, s12, s33, s43, _⟩
     refine cw_seq (sR ?_)
     refine rM rfl s9 <| rw_q rfl (ev_i64_neq (b := 0) rfl rfl) <| rN ?_
     have hd69 : (0 != 0) = false := told_ne rfl
     refine cw_cond_f rfl hd69 ?_
     refine cw_skip (kThen_normal (sR ?_))
     refine rM rfl s0 ?_
     have hF71 : Mem w65 R (([(bd, .cells #[vl, vp2q67] 94 (0, 0))] ++ (Hl2q67 ++ (Hp2q67 ++ ([])))) ++ ([(bnq67, .cells #[(ptr bd 0), (i64 (((ls.length : Int) / 2) - ((ls.length : Int) / 2))), (i64 ((ls.length : Int) / 2)), (u64 (newB ls ps)), vrq67, (i64 (roomB (([toSl (Value.slice none 0 0) ([])]).map (·.2)) : Int))] 100 (0, 0))] ++ (Hrq67 ++ ([(b28, .cells #[(ptr bd 0), (i64 ((ls.length : Int) / 2)), (i64 ((ls.length : Int) / 2)), (u64 ((readH ls ps 0 ((ls.length : Int) / 2)).gen)), (slc b47_1 0 1 1), (i64 ((readH ls ps 0 ((ls.length : Int) / 2)).at_))] 100 (0, 0))] ++ (HL62 ++ ([(b6, .cells #[(i64 ((ls.length : Int) / 2)), (i64 ((ls.length : Int) / 2)), (u64 ((readH ls ps ((ls.length : Int) / 2) ((ls.length : Int) / 2)).gen)), vrq16, (i64 ((readH ls ps ((ls.length : Int) / 2) ((ls.length : Int) / 2)).at_))] 97 (0, 0))] ++ (Hrq16 ++ ([(b5, .cells #[(i64 0), (i64 ((ls.length : Int) / 2)), (u64 ((readH ls ps 0 ((ls.length : Int) / 2)).gen)), vrq12, (i64 ((readH ls ps 0 ((ls.length : Int) / 2)).at_))] 97 (0, 0))] ++ (Hrq12 ++ ([])))))))))) := by
       have hT := (Mem.pick4 Hl2q67 Hp2q67 [_] Hrq67 [_] _ (Mem.pick4 Hp2q67 [_] Hrq67 [_] Hl2q67 _ (Mem.pick4 [_] Hrq67 [_] Hl2q67 Hp2q67 _ hm65)))
       try simp only [List.append_assoc, List.cons_append, List.nil_append, List.append_nil] at hT ⊢
       exact hT
     refine rw_c rfl (opR_call Try.func46 bd46 nm46 (args1 rfl) (c_dsync bd vl (turnL ls ps (((ls.length : Int) / 2) - ((ls.length : Int) / 2)) (newB ls ps) (([toSl (Value.slice none 0 0) ([])]).map (·.2))) Hl2q67 vp2q67 (turnP ls ps (((ls.length : Int) / 2) - ((ls.length : Int) / 2)) (newB ls ps) (([toSl (Value.slice none 0 0) ([])]).map (·.2))) Hp2q67 _ _ (Mem.give hF71) gl2q67 gp2q67 (okP_hat (okP_turn hok)) sL sL)) ?_
     rintro _ w70 ⟨Hl2q72, rfl, gl2q72, k_w70⟩
     have hm70 : Mem w70 R ([(bd, .cells #[vl, (Value.slice none 0 0)] 94 (0, 0))] ++ (Hl2q72 ++ ([(bnq67, .cells #[(ptr bd 0), (i64 (((ls.length : Int) / 2) - ((ls.length : Int) / 2))), (i64 ((ls.length : Int) / 2)), (u64 (newB ls ps)), vrq67, (i64 (roomB (([toSl (Value.slice none 0 0) ([])]).map (·.2)) : Int))] 100 (0, 0))] ++ (Hrq67 ++ ([(b28, .cells #[(ptr bd 0), (i64 ((ls.length : Int) / 2)), (i64 ((ls.length : Int) / 2)), (u64 ((readH ls ps 0 ((ls.length : Int) / 2)).gen)), (slc b47_1 0 1 1), (i64 ((readH ls ps 0 ((ls.length : Int) / 2)).at_))] 100 (0, 0))] ++ (HL62 ++ ([(b6, .cells #[(i64 ((ls.length : Int) / 2)), (i64 ((ls.length : Int) / 2)), (u64 ((readH ls ps ((ls.length : Int) / 2) ((ls.length : Int) / 2)).gen)), vrq16, (i64 ((readH ls ps ((ls.length : Int) / 2) ((ls.length : Int) / 2)).at_))] 97 (0, 0))] ++ (Hrq16 ++ ([(b5, .cells #[(i64 0), (i64 ((ls.length : Int) / 2)), (u64 ((readH ls ps 0 ((ls.length : Int) / 2)).gen)), vrq12, (i64 ((readH ls ps 0 ((ls.length : Int) / 2)).at_))] 97 (0, 0))] ++ (Hrq12 ++ ([]))))))))))) := (by
       have hT := Mem.back hF71 k_w70
       try simp only [List.append_assoc, List.cons_append, List.nil_append, List.append_nil] at hT ⊢
       exact hT)
     refine rN (sR ?_)
     refine rM rfl s8 <| rw_q rfl (ev_assign (v := (ptr bnq67 0)) rfl) <| rw_q rfl (ev_assign (v := (i64 0)) rfl) ?_
     refine rN (cw_ret ?_)
     refine fnPost_ret [(ptr bnq67 0), (i64 0)] ⟨rfl, rfl, trivial⟩ ?_
     have hm73 := Mem.drop ([(b28, .cells #[(ptr bd 0), (i64 ((ls.length : Int) / 2)), (i64 ((ls.length : Int) / 2)), (u64 ((readH ls ps 0 ((ls.length : Int) / 2)).gen)), (slc b47_1 0 1 1), (i64 ((readH ls ps 0 ((ls.length : Int) / 2)).at_))] 100 (0, 0))]) _ (Mem.pick4 [_] Hl2q72 [_] Hrq67 [_] _ hm70)
     have hm74 := Mem.drop HL62 _ (Mem.pick4 [_] Hl2q72 [_] Hrq67 HL62 _ hm73)
     have hm75 := Mem.drop ([(b6, .cells #[(i64 ((ls.length : Int) / 2)), (i64 ((ls.length : Int) / 2)), (u64 ((readH ls ps ((ls.length : Int) / 2) ((ls.length : Int) / 2)).gen)), vrq16, (i64 ((readH ls ps ((ls.length : Int) / 2) ((ls.length : Int) / 2)).at_))] 97 (0, 0))]) _ (Mem.pick4 [_] Hl2q72 [_] Hrq67 [_] _ hm74)
     have hm76 := Mem.drop Hrq16 _ (Mem.pick4 [_] Hl2q72 [_] Hrq67 Hrq16 _ hm75)
     have hm77 := Mem.drop ([(b5, .cells #[(i64 0), (i64 ((ls.length : Int) / 2)), (u64 ((readH ls ps 0 ((ls.length : Int) / 2)).gen)), vrq12, (i64 ((readH ls ps 0 ((ls.length : Int) / 2)).at_))] 97 (0, 0))]) _ (Mem.pick4 [_] Hl2q72 [_] Hrq67 [_] _ hm76)
     have hm78 := Mem.drop Hrq12 _ (Mem.pick4 [_] Hl2q72 [_] Hrq67 Hrq12 _ hm77)
     have hm79 := (Mem.pick [_] Hl2q72 _ hm78)
     have hm80 := (Mem.pick Hl2q72 [_] _ hm79)
     have hm81 := (Mem.pick3 [_] Hl2q72 [_] Hrq67 _ hm80)
     have hm82 := (Mem.pick3 Hrq67 [_] Hl2q72 [_] _ hm81)
     have hOB1 := congrArg Prod.fst hOB
     simp only at hOB1
     unfold openD
     rw [hOB1, ← hmr]
     exact ⟨bnq67, vrq67, rsq67, Hrq67, Hl2q72, rfl, hMq67, (by rw [hLq67, List.length_map]), grq67, gl2q72, (by
       have hT := hm82
       try simp only [List.append_assoc, List.cons_append, List.nil_append, List.append_nil] at hT ⊢
       exact hT)⟩
   · -- false
     have hc61p := ne_of_beq_false hc61
     refine cw_skip (kThen_normal (cw_seq ?_))
     have hOB : (oldB ls ps) = (0, (readH ls ps 0 ((ls.length : Int) / 2)).recs) := by unfold oldB; simp only [if_neg (of_decide_eq_false hc18), hc61]; rfl
     have hml := hMq12
     have hln := hLq12
     have hrm : (roomB (readH ls ps 0 ((ls.length : Int) / 2)).recs : Int) ≤ ((ls.length : Int) / 2) := by have h1 := hI1.room; have h2 := hI1.at1; omega
     have hel : ∀ b ∈ (readH ls ps 0 ((ls.length : Int) / 2)).recs, b.length ≤ 84000 := fun b hb => by have h1 := hI1.el b hb; omega
     have hpo := hI1.gen hc61
     have hrl := room_len (L := (readH ls ps 0 ((ls.length : Int) / 2)).recs)
     have hmr : (rsq12.map (·.2)) = (oldB ls ps).2 := by rw [hOB]; exact hml
     have hlm := congrArg List.length hml; rw [List.length_map] at hlm
     refine cw_region <| rM rfl s7 <| rM rfl s7 <| rw_q rfl (ev_nilCheck rfl) <| rw_q rfl (ev_fa (r := 1) uT100 rfl (by first | rfl | omega) ti97 rfl rfl) <| rw_q rfl (ev_fa (r := 4) uT97 rfl (by first | rfl | omega) ti22 rfl rfl) ?_
     refine rw_q (v := vrq12) rfl (ev_load1 uT22 rfl rfl hm17.h0 rfl) ?_
     have hF84 : Mem w17 R (([(bd, .cells #[vl, vp] 94 (0, 0))] ++ (Hl ++ (Hp ++ ([])))) ++ ([(b28, .cells #[(ptr bd 0), (i64 0), (i64 ((ls.length : Int) / 2)), (u64 ((readH ls ps 0 ((ls.length : Int) / 2)).gen)), vrq12, (i64 ((readH ls ps 0 ((ls.length : Int) / 2)).at_))] 100 (0, 0)), (b6, .cells #[(i64 ((ls.length : Int) / 2)), (i64 ((ls.length : Int) / 2)), (u64 ((readH ls ps ((ls.length : Int) / 2) ((ls.length : Int) / 2)).gen)), vrq16, (i64 ((readH ls ps ((ls.length : Int) / 2) ((ls.length : Int) / 2)).at_))] 97 (0, 0))] ++ (Hrq16 ++ ([(b5, .cells #[(i64 0), (i64 ((ls.length : Int) / 2)), (u64 ((readH ls ps 0 ((ls.length : Int) / 2)).gen)), vrq12, (i64 ((readH ls ps 0 ((ls.length : Int) / 2)).at_))] 97 (0, 0))] ++ (Hrq12 ++ ([])))))) := by
       have hT := (Mem.pick6 Hl Hp [_, _] Hrq16 [_] Hrq12 [_] _ (Mem.pick6 Hp [_, _] Hrq16 [_] Hrq12 [_] Hl _ (Mem.pick6 [_, _] Hrq16 [_] Hrq12 [_] Hl Hp _ hm17)))
       try simp only [List.append_assoc, List.cons_append, List.nil_append, List.append_nil] at hT ⊢
       exact hT
     refine rw_c rfl (opR_call Try.func51 bd51 nm51 (args2 rfl rfl) (c_jturn b28 0 ((ls.length : Int) / 2) ((readH ls ps 0 ((ls.length : Int) / 2)).gen) vrq12 ((readH ls ps 0 ((ls.length : Int) / 2)).at_) bd vl ls Hl vp ps Hp vrq12 rsq12 _ _ (Mem.give hF84) gl gp (Mem.addOwn hF84 (List.mem_append_left _ (List.Mem.head _))) (GrowL.rdAdd grq12 hF84 (fun p hp => (List.mem_append_right _ (List.mem_append_right _ (List.mem_append_right _ (List.mem_append_left _ hp))))) nN) oM (map_el hml hel) sL sL hok sL (by rw [hml]; exact hrm) hnew)) ?_
     rintro _ w83 ⟨bnq85, vrq85, rsq85, Hrq85, Hl2q85, vp2q85, Hp2q85, rfl, hMq85, hLq85, grq85, gl2q85, gp2q85, k_w83⟩
     have hm83 : Mem w83 R ([(bnq85, .cells #[(ptr bd 0), (i64 (((ls.length : Int) / 2) - 0)), (i64 ((ls.length : Int) / 2)), (u64 (newB ls ps)), vrq85, (i64 (roomB (rsq12.map (·.2)) : Int))] 100 (0, 0))] ++ (Hrq85 ++ ([(bd, .cells #[vl, vp2q85] 94 (0, 0))] ++ (Hl2q85 ++ (Hp2q85 ++ ([(b28, .cells #[(ptr bd 0), (i64 0), (i64 ((ls.length : Int) / 2)), (u64 ((readH ls ps 0 ((ls.length : Int) / 2)).gen)), vrq12, (i64 ((readH ls ps 0 ((ls.length : Int) / 2)).at_))] 100 (0, 0)), (b6, .cells #[(i64 ((ls.length : Int) / 2)), (i64 ((ls.length : Int) / 2)), (u64 ((readH ls ps ((ls.length : Int) / 2) ((ls.length : Int) / 2)).gen)), vrq16, (i64 ((readH ls ps ((ls.length : Int) / 2) ((ls.length : Int) / 2)).at_))] 97 (0, 0))] ++ (Hrq16 ++ ([(b5, .cells #[(i64 0), (i64 ((ls.length : Int) / 2)), (u64 ((readH ls ps 0 ((ls.length : Int) / 2)).gen)), vrq12, (i64 ((readH ls ps 0 ((ls.length : Int) / 2)).at_))] 97 (0, 0))] ++ (Hrq12 ++ ([])))))))))) := (by
       have hT := Mem.back hF84 k_w83
       try simp only [List.append_assoc, List.cons_append, List.nil_append, List.append_nil] at hT ⊢
       exact hT)
     have hTl := turnL_len (ls := ls) (ps := ps) (fr := ((ls.length : Int) / 2) - 0) (g := (newB ls ps)) (L := rsq12.map (·.2))
     have hTp := turnP_len (ls := ls) (ps := ps) (fr := ((ls.length : Int) / 2) - 0) (g := (newB ls ps)) (L := rsq12.map (·.2)) (by rw [List.length_map]; omega)
     have hrm2 : (roomB (rsq12.map (·.2)) : Int) ≤ ((ls.length : Int) / 2) := by rw [hml]; exact hrm
     refine rw_q rfl (ev_move (v := (Value.tuple #[(ptr bnq85 0), (i64 0)])) rfl) <| rw_q (v := (ptr bnq85 0)) rfl (ev_extract rfl rfl) <| rw_q (v := (i64 0)) rfl (ev_extract rfl rfl) <| rw_q rfl (ev_assign (v := (ptr bnq85 0)) rfl) <| rw_q rfl (ev_assign (v := (i64 0)) rfl) ?_
     refine rN (cw_seq (sR ?_))
     refine rw_q rfl (ev_move (v := (i64 0)) rfl) <| rw_q rfl (ev_i64_neq (b := 0) rfl rfl) <| rN ?_
     have hd86 : (0 != 0) = false := told_ne rfl
     refine cw_cond_f rfl hd86 ?_
     refine cw_skip (kThen_normal (sR ?_))
     refine rM rfl s0 ?_
     have hF88 : Mem w83 R (([(bd, .cells #[vl, vp2q85] 94 (0, 0))] ++ (Hl2q85 ++ (Hp2q85 ++ ([])))) ++ ([(bnq85, .cells #[(ptr bd 0), (i64 (((ls.length : Int) / 2) - 0)), (i64 ((ls.length : Int) / 2)), (u64 (newB ls ps)), vrq85, (i64 (roomB (rsq12.map (·.2)) : Int))] 100 (0, 0))] ++ (Hrq85 ++ ([(b28, .cells #[(ptr bd 0), (i64 0), (i64 ((ls.length : Int) / 2)), (u64 ((readH ls ps 0 ((ls.length : Int) / 2)).gen)), vrq12, (i64 ((readH ls ps 0 ((ls.length : Int) / 2)).at_))] 100 (0, 0)), (b6, .cells #[(i64 ((ls.length : Int) / 2)), (i64 ((ls.length : Int) / 2)), (u64 ((readH ls ps ((ls.length : Int) / 2) ((ls.length : Int) / 2)).gen)), vrq16, (i64 ((readH ls ps ((ls.length : Int) / 2) ((ls.length : Int) / 2)).at_))] 97 (0, 0))] ++ (Hrq16 ++ ([(b5, .cells #[(i64 0), (i64 ((ls.length : Int) / 2)), (u64 ((readH ls ps 0 ((ls.length : Int) / 2)).gen)), vrq12, (i64 ((readH ls ps 0 ((ls.length : Int) / 2)).at_))] 97 (0, 0))] ++ (Hrq12 ++ ([])))))))) := by
       have hT := (Mem.pick4 Hl2q85 Hp2q85 [_] Hrq85 [_] _ (Mem.pick4 Hp2q85 [_] Hrq85 [_] Hl2q85 _ (Mem.pick4 [_] Hrq85 [_] Hl2q85 Hp2q85 _ hm83)))
       try simp only [List.append_assoc, List.cons_append, List.nil_append, List.append_nil] at hT ⊢
       exact hT
     refine rw_c rfl (opR_call Try.func46 bd46 nm46 (args1 rfl) (c_dsync bd vl (turnL ls ps (((ls.length : Int) / 2) - 0) (newB ls ps) (rsq12.map (·.2))) Hl2q85 vp2q85 (turnP ls ps (((ls.length : Int) / 2) - 0) (newB ls ps) (rsq12.map (·.2))) Hp2q85 _ _ (Mem.give hF88) gl2q85 gp2q85 (okP_hat (okP_turn hok)) sL sL)) ?_
     rintro _ w87 ⟨Hl2q89, rfl, gl2q89, k_w87⟩
     have hm87 : Mem w87 R ([(bd, .cells #[vl, (Value.slice none 0 0)] 94 (0, 0))] ++ (Hl2q89 ++ ([(bnq85, .cells #[(ptr bd 0), (i64 (((ls.length : Int) / 2) - 0)), (i64 ((ls.length : Int) / 2)), (u64 (newB ls ps)), vrq85, (i64 (roomB (rsq12.map (·.2)) : Int))] 100 (0, 0))] ++ (Hrq85 ++ ([(b28, .cells #[(ptr bd 0), (i64 0), (i64 ((ls.length : Int) / 2)), (u64 ((readH ls ps 0 ((ls.length : Int) / 2)).gen)), vrq12, (i64 ((readH ls ps 0 ((ls.length : Int) / 2)).at_))] 100 (0, 0)), (b6, .cells #[(i64 ((ls.length : Int) / 2)), (i64 ((ls.length : Int) / 2)), (u64 ((readH ls ps ((ls.length : Int) / 2) ((ls.length : Int) / 2)).gen)), vrq16, (i64 ((readH ls ps ((ls.length : Int) / 2) ((ls.length : Int) / 2)).at_))] 97 (0, 0))] ++ (Hrq16 ++ ([(b5, .cells #[(i64 0), (i64 ((ls.length : Int) / 2)), (u64 ((readH ls ps 0 ((ls.length : Int) / 2)).gen)), vrq12, (i64 ((readH ls ps 0 ((ls.length : Int) / 2)).at_))] 97 (0, 0))] ++ (Hrq12 ++ ([]))))))))) := (by
       have hT := Mem.back hF88 k_w87
       try simp only [List.append_assoc, List.cons_append, List.nil_append, List.append_nil] at hT ⊢
       exact hT)
     refine rN (sR ?_)
     refine rw_q rfl (ev_move (v := (ptr bnq85 0)) rfl) <| rw_q rfl (ev_assign (v := (ptr bnq85 0)) rfl) <| rw_q rfl (ev_assign (v := (i64 0)) rfl) <| rN ?_
     refine CW.abs (fun g => g 0 = (ptr bd 0) ∧ g 2 = (ptr bnq85 0) ∧ g 3 = (i64 0) ∧ g 4 = (i64 ((ls.length : Int) / 2)) ∧ g 5 = (ptr b5 0) ∧ g 6 = (ptr b6 0) ∧ g 7 = (ptr b28 0) ∧ g 8 = (ptr bnq85 0) ∧ g 9 = (i64 0) ∧ g 12 = (bl (decide ((ls.length : Int) < 4))) ∧ g 33 = (bl (decide (((readH ls ps 0 ((ls.length : Int) / 2)).gen).toNat < ((readH ls ps ((ls.length : Int) / 2) ((ls.length : Int) / 2)).gen).toNat))) ∧ g 43 = (bl (((readH ls ps 0 ((ls.length : Int) / 2)).gen) == 0#64)) ∧ g 65 = (bl (0 != 0)) ∧ True) ⟨s0, rfl, rfl, s4, s5, s6, s7, rfl, rfl, s12, s33, s43, rfl, trivial⟩ ?_
     rintro fr90 ⟨s0, s2, s3, s4, s5, s6, s7, s8, s9, s12, s33, s43, s65, _⟩
     refine cw_ret <| fnPost_ret [(ptr bnq85 0), (i64 0)] ⟨s2, s3, trivial⟩ ?_
     have hm91 := Mem.drop ([(b28, .cells #[(ptr bd 0), (i64 0), (i64 ((ls.length : Int) / 2)), (u64 ((readH ls ps 0 ((ls.length : Int) / 2)).gen)), vrq12, (i64 ((readH ls ps 0 ((ls.length : Int) / 2)).at_))] 100 (0, 0))]) _ (Mem.pick4 [_] Hl2q89 [_] Hrq85 [_] _ hm87)
     have hm92 := Mem.drop ([(b6, .cells #[(i64 ((ls.length : Int) / 2)), (i64 ((ls.length : Int) / 2)), (u64 ((readH ls ps ((ls.length : Int) / 2) ((ls.length : Int) / 2)).gen)), vrq16, (i64 ((readH ls ps ((ls.length : Int) / 2) ((ls.length : Int) / 2)).at_))] 97 (0, 0))]) _ (Mem.pick4 [_] Hl2q89 [_] Hrq85 [_] _ hm91)
     have hm93 := Mem.drop Hrq16 _ (Mem.pick4 [_] Hl2q89 [_] Hrq85 Hrq16 _ hm92)
     have hm94 := Mem.drop ([(b5, .cells #[(i64 0), (i64 ((ls.length : Int) / 2)), (u64 ((readH ls ps 0 ((ls.length : Int) / 2)).gen)), vrq12, (i64 ((readH ls ps 0 ((ls.length : Int) / 2)).at_))] 97 (0, 0))]) _ (Mem.pick4 [_] Hl2q89 [_] Hrq85 [_] _ hm93)
     have hm95 := Mem.drop Hrq12 _ (Mem.pick4 [_] Hl2q89 [_] Hrq85 Hrq12 _ hm94)
     have hm96 := (Mem.pick [_] Hl2q89 _ hm95)
     have hm97 := (Mem.pick Hl2q89 [_] _ hm96)
     have hm98 := (Mem.pick3 [_] Hl2q89 [_] Hrq85 _ hm97)
     have hm99 := (Mem.pick3 Hrq85 [_] Hl2q89 [_] _ hm98)
     have hOB1 := congrArg Prod.fst hOB
     simp only at hOB1
     unfold openD
     rw [hOB1, ← hmr]
     exact ⟨bnq85, vrq85, rsq85, Hrq85, Hl2q89, rfl, hMq85, (by rw [hLq85, List.length_map]), grq85, gl2q89, (by
       have hT := hm99
       try simp only [List.append_assoc, List.cons_append, List.nil_append, List.append_nil] at hT ⊢
       exact hT)⟩

set_option maxHeartbeats 2000000 in
theorem c_jappend1 (bj : Nat) (fr0 sz : Int) (ge : BitVec 64) (vr : Value) (rs : List SlT) (Hr : List (Nat × Obj)) (ja : Int) (bd : Nat) (vl : Value) (ls : List (List (BitVec 8))) (Hl : List (Nat × Obj)) (vp : Value) (ps : List WriteT) (Hp : List (Nat × Obj)) (vb : Value) (b : List (BitVec 8)) (w0 : World) (R : Rest) (hm0 : Mem w0 R ([(bj, .cells #[(ptr bd 0), (i64 fr0), (i64 sz), (u64 ge), vr, (i64 ja)] 100 (0, 0))] ++ (Hr ++ ([(bd, .cells #[vl, vp] 94 (0, 0))] ++ (Hl ++ (Hp ++ ([]))))))) (gr : GrowL mN 23 vr rs Hr) (gl : GrowK (encA u8) 64 83 vl ls Hl) (gp : GrowK encW 65 104 vp ps Hp) (hb : Rd R.blk u8 vb b) (hll : ls.length ≤ 65536) (hpl : ps.length ≤ 2000) (hbl : b.length ≤ 84000) (hfr : 0 ≤ fr0 ∧ fr0 ≤ 2000) (hsz : 0 ≤ sz ∧ sz ≤ 2000) (hps : 0 ≤ ja ∧ ja ≤ 2000) (hrl : rs.length ≤ 2000) (hok : okP ps (ls.length : Int)) (hfit : fitsB sz ja b.length = true) : CallsR Try.prog 15 #[(ptr bj 0), vb] w0 (fun r w1 => ∃ vr2 rs2 Hr2 Hl2, r = i64 0 ∧ rs2.map (·.2) = rs.map (·.2) ++ [b] ∧ rs2.length = rs.length + 1 ∧ GrowL mN 23 vr2 rs2 Hr2 ∧ GrowK (encA u8) 64 83 vl (crashB ls (writeK ls ps (fr0 + ja) ge (BitVec.ofInt 64 (rs.length : Int)) b (blocksN b.length)) [1#8]) Hl2 ∧ Mem w1 R ([(bj, .cells #[(ptr bd 0), (i64 fr0), (i64 sz), (u64 ge), vr2, (i64 (ja + (blocksN b.length : Int)))] 100 (0, 0))] ++ (Hr2 ++ ([(bd, .cells #[vl, (Value.slice none 0 0)] 94 (0, 0))] ++ (Hl2 ++ ([])))))) := by
 refine callsR_of_cw (args := [(ptr bj 0), vb]) Try.func15 rfl Try.ntmps15 Try.results15 rfl ?_
 have hwl := writeK_len (ls := ls) (ps := ps) (pos := fr0 + ja) (g := ge) (r := BitVec.ofInt 64 (rs.length : Int)) (b := b) (blocksN b.length)
 have hbp := blocksN_pos b.length
 refine sR <| rw_q rfl (ev_assign (v := (i64 0)) rfl) ?_
 refine rN (cw_seq (sR ?_))
 refine rw_q rfl (ev_move (v := (ptr bj 0)) rfl) <| rM rfl (v := vb) rfl <| rw_q (v := (i64 (b.length : Int))) rfl (ev_len_rd (Rd.ofRest hb hm0) uT23 rfl) <| rw_c rfl (opR_call Try.func16 bd16 nm16 (args2 rfl rfl) (c_jfits bj bd fr0 sz ge vr ja b.length _ hm0.h0 sL sL sL)) ?_
 rintro _ w1 ⟨rfl, _ew1⟩
 have hm1 := hm0.ext _ew1
 refine rw_q rfl (ev_not rfl) <| rN ?_
 have hd3 : (fitsB sz ja b.length) = true := hfit
 have hd4 : (!(fitsB sz ja b.length)) = false := congrArg Bool.not hd3
 refine cw_cond_f rfl hd4 ?_
 refine cw_skip (kThen_normal (sR ?_))
 refine rw_q rfl (ev_move (v := (ptr bj 0)) rfl) <| rM rfl (v := vb) rfl ?_
 have hF6 : Mem w1 R (([(bj, .cells #[(ptr bd 0), (i64 fr0), (i64 sz), (u64 ge), vr, (i64 ja)] 100 (0, 0))] ++ (Hr ++ ([(bd, .cells #[vl, vp] 94 (0, 0))] ++ (Hl ++ (Hp ++ ([])))))) ++ ([])) := by
   have hT := (Mem.pick4 Hr [_] Hl Hp [_] _ (Mem.pick4 [_] Hl Hp [_] Hr _ (Mem.pick4 Hl Hp [_] Hr [_] _ (Mem.pick4 Hp [_] Hr [_] Hl _ (Mem.pick4 [_] Hr [_] Hl Hp _ hm1)))))
   try simp only [List.append_assoc, List.cons_append, List.nil_append, List.append_nil] at hT ⊢
   exact hT
 refine rw_c rfl (opR_call Try.func52 bd52 nm52 (args2 rfl rfl) (c_jlay bj fr0 sz ge vr rs Hr ja bd vl ls Hl vp ps Hp vb b _ _ (Mem.give hF6) gr gl gp (Rd.addRest hF6 hb) sL sL sL sL sL)) ?_
 rintro _ w5 ⟨vr2q7, rs2q7, Hr2q7, vp2q7, Hp2q7, rfl, hMq7, hLq7, gr2q7, gp2q7, k_w5⟩
 have hm5 : Mem w5 R ([(bj, .cells #[(ptr bd 0), (i64 fr0), (i64 sz), (u64 ge), vr2q7, (i64 (ja + (blocksN b.length : Int)))] 100 (0, 0))] ++ (Hr2q7 ++ ([(bd, .cells #[vl, vp2q7] 94 (0, 0))] ++ (Hl ++ (Hp2q7 ++ ([])))))) := (by
   have hT := Mem.back hF6 k_w5
   try simp only [List.append_assoc, List.cons_append, List.nil_append, List.append_nil] at hT ⊢
   exact hT)
 refine rN (sR ?_)
 refine rw_q rfl (ev_move (v := (ptr bj 0)) rfl) <| rw_q rfl (ev_nilCheck rfl) <| rw_q rfl (ev_fa (r := 0) uT100 rfl (by first | rfl | omega) ti25 rfl rfl) <| rw_q (v := (ptr bd 0)) rfl (ev_load1 uT25 rfl rfl hm5.h0 rfl) ?_
 have hF9 : Mem w5 R (([(bd, .cells #[vl, vp2q7] 94 (0, 0))] ++ (Hl ++ (Hp2q7 ++ ([])))) ++ ([(bj, .cells #[(ptr bd 0), (i64 fr0), (i64 sz), (u64 ge), vr2q7, (i64 (ja + (blocksN b.length : Int)))] 100 (0, 0))] ++ (Hr2q7 ++ ([])))) := by
   have hT := (Mem.pick4 Hl Hp2q7 [_] Hr2q7 [_] _ (Mem.pick4 Hp2q7 [_] Hr2q7 [_] Hl _ (Mem.pick4 [_] Hr2q7 [_] Hl Hp2q7 _ hm5)))
   try simp only [List.append_assoc, List.cons_append, List.nil_append, List.append_nil] at hT ⊢
   exact hT
 refine rw_c rfl (opR_call Try.func46 bd46 nm46 (args1 rfl) (c_dsync bd vl ls Hl vp2q7 (writeK ls ps (fr0 + ja) ge (BitVec.ofInt 64 (rs.length : Int)) b (blocksN b.length)) Hp2q7 _ _ (Mem.give hF9) gl gp2q7 (okP_hat (okP_write hok _)) sL sL)) ?_
 rintro _ w8 ⟨Hl2q10, rfl, gl2q10, k_w8⟩
 have hm8 : Mem w8 R ([(bd, .cells #[vl, (Value.slice none 0 0)] 94 (0, 0))] ++ (Hl2q10 ++ ([(bj, .cells #[(ptr bd 0), (i64 fr0), (i64 sz), (u64 ge), vr2q7, (i64 (ja + (blocksN b.length : Int)))] 100 (0, 0))] ++ (Hr2q7 ++ ([]))))) := (by
   have hT := Mem.back hF9 k_w8
   try simp only [List.append_assoc, List.cons_append, List.nil_append, List.append_nil] at hT ⊢
   exact hT)
 refine rN (sR ?_)
 refine rw_q rfl (ev_assign (v := (i64 0)) rfl) ?_
 refine rN (cw_ret ?_)
 refine fnPost_ret [(i64 0)] ⟨rfl, trivial⟩ ?_
 have hm11 := (Mem.pick [_] Hl2q10 _ hm8)
 have hm12 := (Mem.pick Hl2q10 [_] _ hm11)
 have hm13 := (Mem.pick3 [_] Hl2q10 [_] Hr2q7 _ hm12)
 have hm14 := (Mem.pick3 Hr2q7 [_] Hl2q10 [_] _ hm13)
 exact ⟨vr2q7, rs2q7, Hr2q7, Hl2q10, rfl, hMq7, hLq7, gr2q7, gl2q10, (by
   have hT := hm14
   try simp only [List.append_assoc, List.cons_append, List.nil_append, List.append_nil] at hT ⊢
   exact hT)⟩

set_option maxHeartbeats 2000000 in
theorem c_jrestart1 (bj : Nat) (fr0 sz : Int) (ge : BitVec 64) (vr : Value) (rs : List SlT) (Hr : List (Nat × Obj)) (ja : Int) (bd : Nat) (vl : Value) (ls : List (List (BitVec 8))) (Hl : List (Nat × Obj)) (vp : Value) (ps : List WriteT) (Hp : List (Nat × Obj)) (vb : Value) (b : List (BitVec 8)) (w0 : World) (R : Rest) (hm0 : Mem w0 R ([(bj, .cells #[(ptr bd 0), (i64 fr0), (i64 sz), (u64 ge), vr, (i64 ja)] 100 (0, 0))] ++ (Hr ++ ([(bd, .cells #[vl, vp] 94 (0, 0))] ++ (Hl ++ (Hp ++ ([]))))))) (gr : GrowL mN 23 vr rs Hr) (gl : GrowK (encA u8) 64 83 vl ls Hl) (gp : GrowK encW 65 104 vp ps Hp) (hb : Rd R.blk u8 vb b) (hll : ls.length ≤ 65536) (hpl : ps.length ≤ 2000) (hbl : b.length ≤ 84000) (hsz : 0 ≤ fr0 ∧ fr0 ≤ sz ∧ sz ≤ 2000) (hok : okP ps (ls.length : Int)) (hneed : (blocksN b.length : Int) ≤ sz) (hnew : (newB ls ps == 0#64) = false) : CallsR Try.prog 21 #[(ptr bj 0), vb] w0 (fun r w1 => ∃ vr2 rs2 Hr2 Hl2, r = i64 0 ∧ rs2.map (·.2) = [b] ∧ rs2.length = 1 ∧ GrowL mN 23 vr2 rs2 Hr2 ∧ GrowK (encA u8) 64 83 vl (crashB (turnL ls ps (sz - fr0) (newB ls ps) [b]) (turnP ls ps (sz - fr0) (newB ls ps) [b]) [1#8]) Hl2 ∧ Mem w1 R ([(bj, .cells #[(ptr bd 0), (i64 (sz - fr0)), (i64 sz), (u64 (newB ls ps)), vr2, (i64 (blocksN b.length : Int))] 100 (0, 0))] ++ (Hr2 ++ ([(bd, .cells #[vl, (Value.slice none 0 0)] 94 (0, 0))] ++ (Hl2 ++ ([])))))) := by
 refine callsR_of_cw (args := [(ptr bj 0), vb]) Try.func21 rfl Try.ntmps21 Try.results21 rfl <| sR <| rw_q rfl (ev_assign (v := (i64 0)) rfl) ?_
 refine rN (sR ?_)
 refine rw_q rfl (ev_move (v := (ptr bj 0)) rfl) <| rM rfl (v := vb) rfl <| rw_c rfl (or_buildSlice_ones [vb] (List.all_eq_true.1 (one_cons (Rd.one (Rd.ofRest hb hm0)) one_nil)) hm0 uT22 ti23 rfl rfl rfl) ?_
 rintro _ w1 ⟨b10, rfl, _ew1, hm1⟩
 have hm1 : Mem w1 R ([(b10, .cells #[vb] 23 (0, 0)), (bj, .cells #[(ptr bd 0), (i64 fr0), (i64 sz), (u64 ge), vr, (i64 ja)] 100 (0, 0))] ++ (Hr ++ ([(bd, .cells #[vl, vp] 94 (0, 0))] ++ (Hl ++ (Hp ++ ([])))))) := hm1
 have hF3 : Mem w1 R (([(bd, .cells #[vl, vp] 94 (0, 0))] ++ (Hl ++ (Hp ++ ([])))) ++ ([(b10, .cells #[vb] 23 (0, 0)), (bj, .cells #[(ptr bd 0), (i64 fr0), (i64 sz), (u64 ge), vr, (i64 ja)] 100 (0, 0))] ++ (Hr ++ ([])))) := by
   have hT := (Mem.pick4 Hl Hp [_, _] Hr [_] _ (Mem.pick4 Hp [_, _] Hr [_] Hl _ (Mem.pick4 [_, _] Hr [_] Hl Hp _ hm1)))
   try simp only [List.append_assoc, List.cons_append, List.nil_append, List.append_nil] at hT ⊢
   exact hT
 refine rw_c rfl (opR_call Try.func51 bd51 nm51 (args2 rfl rfl) (c_jturn bj fr0 sz ge vr ja bd vl ls Hl vp ps Hp (slc b10 0 1 1) ([toSl vb b]) _ _ (Mem.give hF3) gl gp (Mem.addOwn hF3 (List.mem_append_left _ (List.Mem.tail _ (List.Mem.head _)))) (RdL.one1 (l0 := b) (Mem.addOwn hF3 (List.mem_append_left _ (List.Mem.head _))) (Rd.addRest hF3 hb)) sL (map_el1 hbl) sL sL hok sL (by rw [one_map, room_1]; exact hneed) hnew)) ?_
 rintro _ w2 ⟨bnq4, vrq4, rsq4, Hrq4, Hl2q4, vp2q4, Hp2q4, rfl, hMq4, hLq4, grq4, gl2q4, gp2q4, k_w2⟩
 have hm2 : Mem w2 R ([(bnq4, .cells #[(ptr bd 0), (i64 (sz - fr0)), (i64 sz), (u64 (newB ls ps)), vrq4, (i64 (roomB (([toSl vb b]).map (·.2)) : Int))] 100 (0, 0))] ++ (Hrq4 ++ ([(bd, .cells #[vl, vp2q4] 94 (0, 0))] ++ (Hl2q4 ++ (Hp2q4 ++ ([(b10, .cells #[vb] 23 (0, 0)), (bj, .cells #[(ptr bd 0), (i64 fr0), (i64 sz), (u64 ge), vr, (i64 ja)] 100 (0, 0))] ++ (Hr ++ ([])))))))) := (by
   have hT := Mem.back hF3 k_w2
   try simp only [List.append_assoc, List.cons_append, List.nil_append, List.append_nil] at hT ⊢
   exact hT)
 have hTl := turnL_len (ls := ls) (ps := ps) (fr := sz - fr0) (g := (newB ls ps)) (L := [toSl vb b].map (·.2))
 have hTp := turnP_len (ls := ls) (ps := ps) (fr := sz - fr0) (g := (newB ls ps)) (L := [toSl vb b].map (·.2)) (by simp)
 have hrb : roomB ([toSl vb b].map (·.2)) = blocksN b.length := by rw [one_map, room_1]
 have hbp := blocksN_pos b.length
 refine rw_q rfl (ev_move (v := (Value.tuple #[(ptr bnq4 0), (i64 0)])) rfl) <| rw_q (v := (ptr bnq4 0)) rfl (ev_extract rfl rfl) <| rw_q (v := (i64 0)) rfl (ev_extract rfl rfl) <| rw_q rfl (ev_assign (v := (ptr bnq4 0)) rfl) <| rw_q rfl (ev_assign (v := (i64 0)) rfl) ?_
 refine rN (cw_seq (sR ?_))
 refine rw_q rfl (ev_move (v := (i64 0)) rfl) <| rw_q rfl (ev_i64_neq (b := 0) rfl rfl) <| rN ?_
 have hd5 : (0 != 0) = false := told_ne rfl
 refine cw_cond_f rfl hd5 ?_
 refine cw_skip (kThen_normal (sR ?_))
 refine rw_q rfl (ev_move (v := (ptr bj 0)) rfl) <| rw_q rfl (ev_move (v := (ptr bnq4 0)) rfl) <| rw_q rfl (ev_nilCheck rfl) <| rw_q (v := (Value.agg #[(ptr bd 0), (i64 (sz - fr0)), (i64 sz), (u64 (newB ls ps)), vrq4, (i64 (roomB (([toSl vb b]).map (·.2)) : Int))])) rfl (ev_loadW uT100 rfl ti100 rfl hm2.h0 (by kernel_rfl)) <| rw_q rfl (ev_nilCheck rfl) <| rw_n (or_storeW (cs := #[(ptr bd 0), (i64 (sz - fr0)), (i64 sz), (u64 (newB ls ps)), vrq4, (i64 (roomB (([toSl vb b]).map (·.2)) : Int))]) ti100 rfl rfl (by kernel_rfl) (one_arr (one_cons rfl (one_cons (i64_one _) (one_cons (i64_one _) (one_cons (u64_one _) (one_cons grq4.one (one_cons (i64_one _) one_nil))))))) ((Mem.pick6 [_] Hrq4 [_] Hl2q4 Hp2q4 [_] [_] _ hm2)).h0 (by kernel_rfl) rfl) ?_
 rintro _ w6 uq6
 have hm6 : Mem w6 R ([(bj, .cells #[(ptr bd 0), (i64 (sz - fr0)), (i64 sz), (u64 (newB ls ps)), vrq4, (i64 (roomB (([toSl vb b]).map (·.2)) : Int))] 100 (0, 0)), (bnq4, .cells #[(ptr bd 0), (i64 (sz - fr0)), (i64 sz), (u64 (newB ls ps)), vrq4, (i64 (roomB (([toSl vb b]).map (·.2)) : Int))] 100 (0, 0))] ++ (Hrq4 ++ ([(bd, .cells #[vl, vp2q4] 94 (0, 0))] ++ (Hl2q4 ++ (Hp2q4 ++ ([(b10, .cells #[vb] 23 (0, 0))] ++ (Hr ++ ([])))))))) := Mem.upd0 (Mem.pick6 [_] Hrq4 [_] Hl2q4 Hp2q4 [_] [_] _ hm2) uq6
 refine rN ?_
 have hm7 := Mem.drop ([(b10, .cells #[vb] 23 (0, 0))]) _ (Mem.pick5 [_, _] Hrq4 [_] Hl2q4 Hp2q4 [_] _ hm6)
 have hm8 := Mem.drop Hr _ (Mem.pick5 [_, _] Hrq4 [_] Hl2q4 Hp2q4 Hr _ hm7)
 refine CW.abs (fun g => g 0 = (ptr bj 0) ∧ g 1 = vb ∧ g 4 = (i64 0) ∧ g 5 = (ptr bnq4 0) ∧ g 6 = (i64 0) ∧ g 15 = (bl (0 != 0)) ∧ True) ⟨rfl, rfl, rfl, rfl, rfl, rfl, trivial⟩ ?_
 rintro fr9 ⟨s0, s1, s4, s5, s6, s15, _⟩
 refine sR <| rM rfl s0 <| rw_q rfl (ev_nilCheck rfl) <| rw_q rfl (ev_fa (r := 0) uT100 rfl (by first | rfl | omega) ti25 rfl rfl) <| rw_q (v := (ptr bd 0)) rfl (ev_load1 uT25 rfl rfl hm8.h0 rfl) ?_
 have hF11 : Mem w6 R (([(bd, .cells #[vl, vp2q4] 94 (0, 0))] ++ (Hl2q4 ++ (Hp2q4 ++ ([])))) ++ ([(bj, .cells #[(ptr bd 0), (i64 (sz - fr0)), (i64 sz), (u64 (newB ls ps)), vrq4, (i64 (roomB (([toSl vb b]).map (·.2)) : Int))] 100 (0, 0)), (bnq4, .cells #[(ptr bd 0), (i64 (sz - fr0)), (i64 sz), (u64 (newB ls ps)), vrq4, (i64 (roomB (([toSl vb b]).map (·.2)) : Int))] 100 (0, 0))] ++ (Hrq4 ++ ([])))) := by
   have hT := (Mem.pick4 Hl2q4 Hp2q4 [_, _] Hrq4 [_] _ (Mem.pick4 Hp2q4 [_, _] Hrq4 [_] Hl2q4 _ (Mem.pick4 [_, _] Hrq4 [_] Hl2q4 Hp2q4 _ hm8)))
   try simp only [List.append_assoc, List.cons_append, List.nil_append, List.append_nil] at hT ⊢
   exact hT
 refine rw_c rfl (opR_call Try.func46 bd46 nm46 (args1 rfl) (c_dsync bd vl (turnL ls ps (sz - fr0) (newB ls ps) (([toSl vb b]).map (·.2))) Hl2q4 vp2q4 (turnP ls ps (sz - fr0) (newB ls ps) (([toSl vb b]).map (·.2))) Hp2q4 _ _ (Mem.give hF11) gl2q4 gp2q4 (okP_hat (okP_turn hok)) sL sL)) ?_
 rintro _ w10 ⟨Hl2q12, rfl, gl2q12, k_w10⟩
 have hm10 : Mem w10 R ([(bd, .cells #[vl, (Value.slice none 0 0)] 94 (0, 0))] ++ (Hl2q12 ++ ([(bj, .cells #[(ptr bd 0), (i64 (sz - fr0)), (i64 sz), (u64 (newB ls ps)), vrq4, (i64 (roomB (([toSl vb b]).map (·.2)) : Int))] 100 (0, 0)), (bnq4, .cells #[(ptr bd 0), (i64 (sz - fr0)), (i64 sz), (u64 (newB ls ps)), vrq4, (i64 (roomB (([toSl vb b]).map (·.2)) : Int))] 100 (0, 0))] ++ (Hrq4 ++ ([]))))) := (by
   have hT := Mem.back hF11 k_w10
   try simp only [List.append_assoc, List.cons_append, List.nil_append, List.append_nil] at hT ⊢
   exact hT)
 refine rN (sR ?_)
 refine rw_q rfl (ev_assign (v := (i64 0)) rfl) ?_
 refine rN (cw_ret ?_)
 refine fnPost_ret [(i64 0)] ⟨rfl, trivial⟩ ?_
 have hm13 := Mem.drop ([(bnq4, .cells #[(ptr bd 0), (i64 (sz - fr0)), (i64 sz), (u64 (newB ls ps)), vrq4, (i64 (roomB (([toSl vb b]).map (·.2)) : Int))] 100 (0, 0))]) _ (Mem.pick3 [_] Hl2q12 [_] [_] _ hm10)
 have hm14 := (Mem.pick [_] Hl2q12 _ hm13)
 have hm15 := (Mem.pick Hl2q12 [_] _ hm14)
 have hm16 := (Mem.pick3 [_] Hl2q12 [_] Hrq4 _ hm15)
 have hm17 := (Mem.pick3 Hrq4 [_] Hl2q12 [_] _ hm16)
 have hm18 := hm17
 have gx19 := gl2q12
 rw [hrb] at hm18
 simp only [one_map] at gx19 hMq4
 exact ⟨vrq4, rsq4, Hrq4, Hl2q12, rfl, hMq4, (by rw [hLq4]; rfl), grq4, gx19, (by
   have hT := hm18
   try simp only [List.append_assoc, List.cons_append, List.nil_append, List.append_nil] at hT ⊢
   exact hT)⟩


end Go.Proofs.Ytfbnhoolkajebaa
