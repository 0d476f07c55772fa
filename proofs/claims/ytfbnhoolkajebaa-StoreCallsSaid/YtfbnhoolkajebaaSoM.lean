/- A row that is appended to and read as it was; what a commit tells. Conditions: none beyond those that each theorem states. -/
import Derived.Test.YtfbnhoolkajebaaSoK
namespace Go.Proofs.Ytfbnhoolkajebaa
section
set_option linter.unusedVariables false
set_option linter.unusedSimpArgs false
attribute [local irreducible] crashB crashK pushB readB inB errB cutN seenW
attribute [local irreducible] markB putB getB getK partB placeF blkOf rawB writeK blocksN
attribute [local irreducible] mostK newB roomB
attribute [local irreducible] recB recF recN genF badB lastP dataB gOf rOf pOf nOf loopH readH
attribute [local irreducible] okP layK turnL turnP oldB
attribute [local irreducible] openD
attribute [local irreducible] natB tkN tkOk kN vN_ oneOk oneR decF decP decV decE rightB encK recP num2 num4 allR goneB encV encE encL encS doO openK openS okS doK commitF lkA keysB
end --m
section
set_option linter.unusedVariables false
set_option linter.unusedSimpArgs false
open Go.RowKit
theorem Mem.pick11 {w : World} {R : Rest} (A0 A1 A2 A3 A4 A5 A6 A7 A8 A9 A10 B C : List (Nat × Obj)) (h : Mem w R (A0 ++ (A1 ++ (A2 ++ (A3 ++ (A4 ++ (A5 ++ (A6 ++ (A7 ++ (A8 ++ (A9 ++ (A10 ++ (B ++ (C)))))))))))))) : Mem w R (B ++ (A0 ++ (A1 ++ (A2 ++ (A3 ++ (A4 ++ (A5 ++ (A6 ++ (A7 ++ (A8 ++ (A9 ++ (A10 ++ (C))))))))))))) :=
  h.perm (by
    have e : ∀ X Y Z : List (Nat × Obj), (X ++ (Y ++ Z)).Perm (Y ++ (X ++ Z)) := fun X Y Z => by rw [← List.append_assoc, ← List.append_assoc]; exact List.Perm.append_right _ List.perm_append_comm
    refine (e _ _ _).trans <| List.Perm.append_left _ <| (e _ _ _).trans <| List.Perm.append_left _ <| (e _ _ _).trans <| List.Perm.append_left _ ?_
    refine (e _ _ _).trans <| List.Perm.append_left _ <| (e _ _ _).trans <| List.Perm.append_left _ <| (e _ _ _).trans <| List.Perm.append_left _ ?_
    refine (e _ _ _).trans <| List.Perm.append_left _ <| (e _ _ _).trans <| List.Perm.append_left _ <| (e _ _ _).trans <| List.Perm.append_left _ ?_
    refine (e _ _ _).trans <| List.Perm.append_left _ <| (e _ _ _).trans ?_
    exact List.Perm.refl _)
theorem Mem.pick12 {w : World} {R : Rest} (A0 A1 A2 A3 A4 A5 A6 A7 A8 A9 A10 A11 B C : List (Nat × Obj)) (h : Mem w R (A0 ++ (A1 ++ (A2 ++ (A3 ++ (A4 ++ (A5 ++ (A6 ++ (A7 ++ (A8 ++ (A9 ++ (A10 ++ (A11 ++ (B ++ (C))))))))))))))) : Mem w R (B ++ (A0 ++ (A1 ++ (A2 ++ (A3 ++ (A4 ++ (A5 ++ (A6 ++ (A7 ++ (A8 ++ (A9 ++ (A10 ++ (A11 ++ (C)))))))))))))) :=
  h.perm (by
    have e : ∀ X Y Z : List (Nat × Obj), (X ++ (Y ++ Z)).Perm (Y ++ (X ++ Z)) := fun X Y Z => by rw [← List.append_assoc, ← List.append_assoc]; exact List.Perm.append_right _ List.perm_append_comm
    refine (e _ _ _).trans <| List.Perm.append_left _ <| (e _ _ _).trans <| List.Perm.append_left _ <| (e _ _ _).trans <| List.Perm.append_left _ ?_
    refine (e _ _ _).trans <| List.Perm.append_left _ <| (e _ _ _).trans <| List.Perm.append_left _ <| (e _ _ _).trans <| List.Perm.append_left _ ?_
    refine (e _ _ _).trans <| List.Perm.append_left _ <| (e _ _ _).trans <| List.Perm.append_left _ <| (e _ _ _).trans <| List.Perm.append_left _ ?_
    refine (e _ _ _).trans <| List.Perm.append_left _ <| (e _ _ _).trans <| List.Perm.append_left _ <| (e _ _ _).trans ?_
    exact List.Perm.refl _)
/-! A row that is appended to, and read as it was, too. -/
section
variable {P : Program} {fr : Nat → Value} {w : World} {ty T T' E E' : TypeId} {x y : Operand} {kb : Nat} {R : Rest} {H Hs Hv : List (Nat × Obj)} {v u0 : Value} {ls : List SlT} {l0 : List (BitVec 8)} {m0 : Nat → Option Obj} {α : Type} {f : α → Value} {l : List α}
theorem or_append2 {zv u : Value} {ms : List α} (hm : Mem w R (Hs ++ H)) (hg : Grow f E v l Hs) (hx : evalF fr x = v) (hy : evalF fr y = u) (hr : Rd (blks w) f u ms) (hT : P.underlying T = some (.slice E)) (hT' : P.underlying T' = some (.slice E'))
    (hi : tinf P E = some (some zv, 1, kb)) (hz1 : zv.cells.size = 1) (hf : ∀ a, (f a).oneCell' = true) (hn : (4 * (l.length + ms.length) + 1024) * kb ≤ 281474976710656) (hn1 : l.length + ms.length ≤ 281474976710656) :
    OpR P fr w (.call ⟨.builtin .append, #[x, y], #[T, T']⟩) ty (fun v' w' => ∃ Hx Hs', Mem w' R (Hx ++ (Hs' ++ H)) ∧ Grow f E v l Hs' ∧ ∀ m : Nat → Option Obj, (∀ q ∈ Hx, m q.1 = some q.2) → (∀ q ∈ Hs', m q.1 = some q.2) → Rd m f v' (l ++ ms)) := by
  have hrd := hg.rd hm
  have hg0 := hg
  have grow : ∀ a cap, v = .slice a l.length cap → ¬ l.length + ms.length ≤ cap →
      OpR P fr w (.call ⟨.builtin .append, #[x, y], #[T, T']⟩) ty (fun v' w' => ∃ Hx Hs', Mem w' R (Hx ++ (Hs' ++ H)) ∧ Grow f E v l Hs' ∧ ∀ m : Nat → Option Obj, (∀ q ∈ Hx, m q.1 = some q.2) → (∀ q ∈ Hs', m q.1 = some q.2) → Rd m f v' (l ++ ms)) := by
    intro a cap hv hc
    subst hv
    obtain ⟨nc, rest, hnc, hrun⟩ := run_append_new (ty := ty) hx hy hr hrd hT hT' hi hz1 hc hn hn1
    have hgn : Grow f E (.slice (some ⟨w.heap.size, 0, none⟩) (l.length + ms.length) nc) (l ++ ms) [(w.heap.size, .cells (cl f l ++ cl f ms ++ rest) E (0, 0))] := by
      refine .inr ⟨w.heap.size, [], rest.toList, [], ?_, ?_⟩
      · simp [slc, hnc]
      · congr 3
        apply Array.ext'; simp [cl]
    refine .inl ⟨_, _, hrun, [(w.heap.size, .cells (cl f l ++ cl f ms ++ rest) E (0, 0))], Hs, ?_, hg0, fun m h1 _ => hgn.rdIn h1⟩
    have h1 := (hm.drew).alloc (.cells (cl f l ++ cl f ms ++ rest) E)
    exact h1
  rcases hg with ⟨⟨a, rfl⟩, rfl, rfl⟩ | ⟨b, pre, sp, post, rfl, rfl⟩
  · by_cases hms : ms.length = 0
    · have : ms = [] := List.eq_nil_of_length_eq_zero hms
      subst this
      have hrun := run_append_in (ty := ty) (w' := w) hx hy hr hT hT' hi (by simp) (fun a' _ => by simp [cl, storeCells]) (fun _ => rfl)
      exact .inl ⟨_, _, hrun, [], [], hm, .inl ⟨⟨_, rfl⟩, rfl, rfl⟩, fun m _ _ => Rd.nil _ _⟩
    · exact grow a 0 rfl (by simp only [List.length_nil]; omega)
  · by_cases hc : l.length + ms.length ≤ l.length + sp.length
    · have hb : w.heap[b]? = some (.cells (pre ++ (l.map f ++ (sp ++ post))).toArray E (0, 0)) := hm.own (b, .cells (pre ++ (l.map f ++ (sp ++ post))).toArray E (0, 0)) (by simp)
      obtain ⟨w', h1, h2⟩ := run_storeCells (P := P) (cl f ms).toList 0 (pre.length + l.length) (pre ++ (l.map f ++ (sp ++ post))).toArray w hb (by simp [cl]; omega) (by simp) (by simp [cl]; intro a _; exact hf a)
      have hrun := run_append_in (ty := ty) (w' := w') hx hy hr hT hT' hi hc (fun a' ha => by cases ha; rw [add_none]; exact h1) (fun h => by cases h)
      have hgn : Grow f E (.slice (some ⟨b, pre.length, none⟩) (l.length + ms.length) (l.length + sp.length)) (l ++ ms) [(b, .cells (pre ++ ((l ++ ms).map f ++ (sp.drop ms.length ++ post))).toArray E (0, 0))] :=
        .inr ⟨b, pre, sp.drop ms.length, post, by simp [slc]; omega, rfl⟩
      refine .inl ⟨_, _, hrun, [], [(b, .cells (pre ++ ((l ++ ms).map f ++ (sp.drop ms.length ++ post))).toArray E (0, 0))], ?_, .inr ⟨b, pre, ms.map f ++ sp.drop ms.length, post, by simp [slc]; omega, by simp [List.append_assoc]⟩, fun m _ h => hgn.rdIn h⟩
      have h3 := Mem.upd (H1 := []) hm h2
      have e : ovr (pre ++ (l.map f ++ (sp ++ post))).toArray (pre.length + l.length + 0) (cl f ms).toList = (pre ++ ((l ++ ms).map f ++ (sp.drop ms.length ++ post))).toArray := by
        apply Array.ext'
        rw [ovr_toList _ _ _ (by simp [cl]; omega)]
        have e1 : List.drop (ms.length - sp.length) post = post := by rw [Nat.sub_eq_zero_of_le oM, List.drop_zero]
        have e2 : List.take (pre.length + l.length) pre = pre := List.take_of_length_le oM
        have e3 : List.drop (pre.length + (l.length + ms.length)) pre = [] := List.drop_of_length_le oM
        have e4 : List.drop (l.length + ms.length) (List.map f l) = [] := List.drop_of_length_le (by simp)
        simp [cl, List.take_append, List.drop_append, Nat.add_assoc, e1, e2, e3, e4]
      rw [e] at h3
      exact h3
    · exact grow (some ⟨b, pre.length, none⟩) (l.length + sp.length) rfl hc
theorem or_appendL2 {zv u : Value} (hm : Mem w R (Hs ++ (Hv ++ H))) (hg : GrowL m0 E v ls Hs) (hx : evalF fr x = v) (hy : evalF fr y = u) (hr : Rd (blks w) slv u [toSl u0 l0]) (e : slv (toSl u0 l0) = u0)
    (hel : ∀ m : Nat → Option Obj, (∀ q ∈ Hv, m q.1 = some q.2) → (∀ b o, m0 b = some o → m b = some o) → Rd m u8 u0 l0) (hT : P.underlying T = some (.slice E)) (hT' : P.underlying T' = some (.slice E'))
    (hi : tinf P E = some (some zv, 1, kb)) (hz1 : zv.cells.size = 1) (hn : (4 * (ls.length + 1) + 1024) * kb ≤ 281474976710656) (hn1 : ls.length + 1 ≤ 281474976710656) :
    OpR P fr w (.call ⟨.builtin .append, #[x, y], #[T, T']⟩) ty (fun v' w' => ∃ ls' Hx Hs', ls'.map (·.2) = ls.map (·.2) ++ [l0] ∧ ls'.length = ls.length + 1 ∧ Mem w' R (Hx ++ (Hs' ++ (Hv ++ H))) ∧ GrowL m0 E v ls Hs' ∧
      ∀ m : Nat → Option Obj, (∀ q ∈ Hx, m q.1 = some q.2) → (∀ q ∈ Hs', m q.1 = some q.2) → (∀ q ∈ Hv, m q.1 = some q.2) → (∀ b o, m0 b = some o → m b = some o) → RdL m v' ls') := by
  obtain ⟨H1, He, rfl, g, hels⟩ := hg
  have hm' : Mem w R (H1 ++ (He ++ (Hv ++ H))) := by rw [List.append_assoc] at hm; exact hm
  refine (or_append2 (f := slv) (ty := ty) hm' g hx hy hr hT hT' hi hz1 slv_one (by simpa using hn) (by simpa using hn1)).mono ?_
  rintro v' w' ⟨Hx, Hs', hm2, g2, hrd⟩
  refine ⟨_, Hx, Hs' ++ He, map_snd_snoc rfl u0 l0, by simp, ?_, ⟨Hs', He, rfl, g2, hels⟩, fun m h1 h2 h3 h0 => ⟨hrd m h1 fun q hq => h2 q (List.mem_append_left _ hq), fun p hp => ?_⟩⟩
  · simpa [List.append_assoc] using hm2
  · rcases List.mem_append.1 hp with hp | hp
    · exact hels p hp m (fun q hq => h2 q (List.mem_append_right _ hq)) h0
    · obtain rfl : p = toSl u0 l0 := by simpa using hp
      rw [e, toSl_snd]; exact hel m h3 h0
end
/-! What a commit tells, case by case. -/
section
variable {hh : Nat} {LW : List (List (BitVec 8))} {lp : List PairT}
theorem cm_no (h : allR lp lp.length = false) : commitF hh LW lp = (1, LW) := by unfold commitF; rw [if_pos h]
theorem cm_fit (h : allR lp lp.length = true) (hf : fitsB (hh : Int) (roomB LW : Int) (encV lp).length = true) : commitF hh LW lp = (0, LW ++ [encV lp]) := by unfold commitF; rw [if_neg (by rw [h]; decide), if_pos hf]
theorem cm_all (h : allR lp lp.length = true) (hf : fitsB (hh : Int) (roomB LW : Int) (encV lp).length = false) (hb : blocksN (encS (doK (openS LW) lp lp.length)).length ≤ hh) : commitF hh LW lp = (0, [encS (doK (openS LW) lp lp.length)]) := by
  unfold commitF; rw [if_neg (by rw [h]; decide), if_neg (by rw [hf]; decide), if_pos hb]
theorem cm_full (h : allR lp lp.length = true) (hf : fitsB (hh : Int) (roomB LW : Int) (encV lp).length = false) (hb : ¬ blocksN (encS (doK (openS LW) lp lp.length)).length ≤ hh) : commitF hh LW lp = (6, LW) := by
  unfold commitF; rw [if_neg (by rw [h]; decide), if_neg (by rw [hf]; decide), if_neg hb]
end
theorem slk_key {ps : List PairT} (k : Nat) : (ps.map (·.key)).getD k ByteArray.empty = (ps.getD k pair0).key := by
  rcases Nat.lt_or_ge k ps.length with h | h
  · simp [List.getD_eq_getElem?_getD, h]
  · rw [List.getD_eq_getElem?_getD, List.getD_eq_getElem?_getD, List.getElem?_eq_none (by simpa using h), List.getElem?_eq_none h]; rfl
theorem kv_keys {ps : List PairT} {S : List KV} (h : ps.map kvOf = S) : ps.map (·.key) = S.map (·.1) := by subst h; rw [List.map_map]; rfl
/-- Values of the document: where they stand, and that none is gone. -/
def ValQ (m : Nat → Option Obj) (ps : List PairT) : Prop := ∀ a ∈ ps, Rd m u8 (slv a.val) a.val.2 ∧ a.gone = false
theorem ValQ.nil {m : Nat → Option Obj} : ValQ m [] := fun a h => by cases h
theorem ValQ.step {m : Nat → Option Obj} {ps lp qs : List PairT} (h : ValQ m ps) (hl : ∀ a ∈ lp, Rd m u8 (slv a.val) a.val.2) (hq : ∀ a ∈ qs, (a ∈ ps ∨ a ∈ lp) ∧ a.gone = false) : ValQ m qs := fun a ha => by
  obtain ⟨h1, h2⟩ := hq a ha
  rcases h1 with h1 | h1
  · exact h a h1
  · exact ⟨hl a h1, h2⟩
theorem RdH.empty {m0 : Nat → Option Obj} {b : Nat} {Hv : List (Nat × Obj)} : RdH m0 Hv (slc b 0 0 0) [] := fun _ _ _ => RdK.nil _ _
theorem val_small {ps : List PairT} {S : List KV} (h : ps.map kvOf = S) {n : Nat} (hb : BndK n S) : ∀ a ∈ ps, a.key.size ≤ 1048576 ∧ a.val.2.length ≤ 1048576 := fun a ha => by
  have := hb.2 (kvOf a) (by rw [← h]; exact List.mem_map.2 ⟨a, ha, rfl⟩)
  have e1 : (kvOf a).1 = a.key := rfl
  have e2 : (kvOf a).2 = a.val.2 := rfl
  rw [e1, e2] at this; omega
theorem el_app4 {L : List (List (BitVec 8))} {b : List (BitVec 8)} {n : Nat} (h : ∀ x ∈ L, x.length ≤ n) (hb : b.length ≤ n) : ∀ x ∈ L ++ [b], x.length ≤ n := fun x hx => by
  rcases List.mem_append.1 hx with h1 | h1
  · exact h x h1
  · obtain rfl := List.mem_singleton.1 h1; exact hb
theorem encE_t {L : List PairT} (h : (encE L == 0) = true) : allR L L.length = true := by
  cases ha : allR L L.length with
  | true => rfl
  | false => rw [(enc_no ha).2] at h; cases h
theorem encE_f {L : List PairT} (h : (encE L == 0) = false) : allR L L.length = false := by
  cases ha : allR L L.length with
  | false => rfl
  | true => rw [(enc_yes ha).2] at h; cases h


end --m
end Go.Proofs.Ytfbnhoolkajebaa
