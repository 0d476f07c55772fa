/- What records tell: plain law. Conditions: none beyond those that each theorem states. -/
import Derived.Test.YtfbnhoolkajebaaSoB
namespace Go.Proofs.Ytfbnhoolkajebaa
set_option linter.unusedVariables false
set_option linter.unusedSimpArgs false
/-! What records tell. -/
def doO (S : List KV) (l : List OneT) : List KV := l.foldl (fun S o => if o.gone then delK S (strOf o.key) else insK S (strOf o.key) o.val) S
theorem strOf_bytesL (s : ByteArray) : strOf (bytesL s) = s := by
  unfold strOf bytesL
  rw [List.map_map]
  have : (UInt8.ofBitVec ∘ UInt8.toBitVec) = id := rfl
  rw [this, List.map_id]
theorem doO_snoc (S : List KV) (l : List OneT) (o : OneT) : doO S (l ++ [o]) = if o.gone then delK (doO S l) (strOf o.key) else insK (doO S l) (strOf o.key) o.val := by unfold doO; rw [List.foldl_append]; rfl
theorem take_getD {l : List PairT} {k : Nat} (h : k < l.length) : l.take (k + 1) = l.take k ++ [l.getD k pair0] := by
  rw [List.take_add_one, List.getElem?_eq_getElem h]; simp [List.getD_eq_getElem?_getD, h]
theorem doK_eq (S : List KV) (l : List PairT) : ∀ k, k ≤ l.length → doK S l k = doO S ((l.take k).map oneOf)
  | 0, _ => rfl
  | k + 1, h => by
    rw [take_getD (show k < l.length by omega), List.map_append, List.map_singleton, doO_snoc, ← doK_eq S l k oM]
    show (if _ then _ else _) = _
    simp only [oneOf, strOf_bytesL]
theorem doK_all (S : List KV) (l : List PairT) : doK S l l.length = doO S (l.map oneOf) := by rw [doK_eq S l _ (Nat.le_refl _), List.take_length]
def openK (L : List (List (BitVec 8))) : Nat → List KV
  | 0 => []
  | k + 1 => doO (openK L k) (decV (L.getD k []))
def openS (L : List (List (BitVec 8))) : List KV := openK L L.length
def okS (L : List (List (BitVec 8))) : Bool := L.all fun b => (decP b).isSome
theorem okS_at {L : List (List (BitVec 8))} (h : okS L = true) {k : Nat} (hk : k < L.length) : decE (L.getD k []) = 0 := by
  have := List.all_eq_true.1 h (L.getD k []) (by rw [List.getD_eq_getElem?_getD, List.getElem?_eq_getElem hk]; exact List.getElem_mem hk)
  unfold decE; rw [if_pos this]
theorem openK_app (L : List (List (BitVec 8))) (b : List (BitVec 8)) : ∀ k, k ≤ L.length → openK (L ++ [b]) k = openK L k
  | 0, _ => rfl
  | k + 1, h => by
    show doO _ _ = doO _ _
    rw [openK_app L b k oM, List.getD_eq_getElem?_getD, List.getD_eq_getElem?_getD, List.getElem?_append_left oM]
theorem openS_app (L : List (List (BitVec 8))) (b : List (BitVec 8)) : openS (L ++ [b]) = doO (openS L) (decV b) := by
  unfold openS
  rw [List.length_append, List.length_singleton]
  show doO _ _ = _
  rw [openK_app L b _ (Nat.le_refl _), List.getD_eq_getElem?_getD, List.getElem?_append_right (Nat.le_refl _)]
  simp
theorem openS_one (b : List (BitVec 8)) : openS [b] = doO [] (decV b) := rfl
theorem okS_app {L : List (List (BitVec 8))} {b : List (BitVec 8)} : okS (L ++ [b]) = (okS L && (decP b).isSome) := by unfold okS; rw [List.all_append]; simp
theorem okS_one {b : List (BitVec 8)} : okS [b] = (decP b).isSome := by unfold okS; simp
theorem ins_sort {S : List KV} (h : SortK S) (l : List OneT) : SortK (doO S l) := by
  unfold doO
  induction l generalizing S with
  | nil => exact h
  | cons o l ih =>
    refine ih (S := _) ?_
    show SortK (if _ then _ else _)
    split
    · exact delK_sort h
    · exact insK_sort h
theorem openK_sort (L : List (List (BitVec 8))) : ∀ k, SortK (openK L k)
  | 0 => List.Pairwise.nil
  | k + 1 => ins_sort (openK_sort L k) _
/-! Bytes of pairs, told again. -/
theorem num2_nat {n : Nat} (h : n < 65536) : natB (num2 (n : Int)) = n := by
  show (0 * 256 + (BitVec.ofInt 8 ((n : Int) / 256)).toNat) * 256 + (BitVec.ofInt 8 (n : Int)).toNat = n
  rw [BitVec.toNat_ofInt, BitVec.toNat_ofInt]
  omega
theorem num4_nat {n : Nat} (h : n < 4294967296) : natB (num4 (n : Int)) = n := by
  show (((0 * 256 + (BitVec.ofInt 8 ((n : Int) / 16777216)).toNat) * 256 + (BitVec.ofInt 8 ((n : Int) / 65536)).toNat) * 256 + (BitVec.ofInt 8 ((n : Int) / 256)).toNat) * 256 + (BitVec.ofInt 8 (n : Int)).toNat = n
  rw [BitVec.toNat_ofInt, BitVec.toNat_ofInt, BitVec.toNat_ofInt, BitVec.toNat_ofInt]
  omega
section
variable {g : Bool} {k : ByteArray} {v r : List (BitVec 8)}
theorem rec_kN (hk : k.size < 65536) : kN (recP g k v ++ r) = k.size := by
  unfold kN recP
  rw [show (([goneB g] ++ (num2 (k.size : Int) ++ (bytesL k ++ (num4 (v.length : Int) ++ v)))) ++ r).drop 1 = num2 (k.size : Int) ++ ((bytesL k ++ (num4 (v.length : Int) ++ v)) ++ r) by simp]
  rw [List.take_append_of_le_length (by rw [num2_len]; omega), List.take_of_length_le (by rw [num2_len]; omega), num2_nat hk]
theorem rec_drop3 : (recP g k v ++ r).drop 3 = bytesL k ++ (num4 (v.length : Int) ++ (v ++ r)) := by
  unfold recP num2; simp
theorem rec_vN (hk : k.size < 65536) (hv : v.length < 4294967296) : vN_ (recP g k v ++ r) = v.length := by
  unfold vN_
  rw [rec_kN hk, ← List.drop_drop, rec_drop3, List.drop_append_of_le_length (by simp), show (bytesL k).drop k.size = [] by rw [List.drop_eq_nil_iff]; simp, List.nil_append]
  rw [List.take_append_of_le_length (by rw [num4_len]; omega), List.take_of_length_le (by rw [num4_len]; omega), num4_nat hv]
theorem rec_v (hk : k.size < 65536) : (recP g k v ++ r).drop (7 + kN (recP g k v ++ r)) = v ++ r := by
  rw [rec_kN hk, show 7 + k.size = 3 + (k.size + 4) by omega, ← List.drop_drop, rec_drop3, ← List.drop_drop, List.drop_append_of_le_length (by simp), show (bytesL k).drop k.size = [] by rw [List.drop_eq_nil_iff]; simp, List.nil_append]
  exact List.drop_left' (num4_len _)
theorem rec_0 : (recP g k v ++ r).getD 0 0 = goneB g := by unfold recP; rfl
theorem rec_one (hk : k.size < 65536) (hv : v.length < 4294967296) : oneP (recP g k v ++ r) = ⟨bytesL k, v, g⟩ := by
  unfold oneP
  rw [rec_v hk, rec_vN hk hv, rec_kN hk, rec_drop3, rec_0, List.take_append_of_le_length (by simp), List.take_of_length_le (by simp), List.take_append_of_le_length (Nat.le_refl _), List.take_length]
  cases g <;> rfl
theorem rec_rest (hk : k.size < 65536) (hv : v.length < 4294967296) : oneR (recP g k v ++ r) = r := by
  unfold oneR
  rw [rec_vN hk hv, ← List.drop_drop, rec_v hk]; exact List.drop_left
theorem rec_ok (hk : k.size < 65536) (hv : v.length < 4294967296) (hr : rightB k.size v.length g = true) : oneOk (recP g k v ++ r) = true := by
  have hl := recP_len (g := g) (k := k) (v := v)
  unfold oneOk
  rw [Bool.and_eq_true, Bool.and_eq_true, Bool.and_eq_true, tk_iff, tk_iff, tkN_1, tkN_2, rec_kN hk, rec_vN hk hv, rec_0, decide_eq_true_eq]
  simp only [List.length_drop, List.length_append]
  refine ⟨⟨by omega, by omega⟩, ⟨by omega, by omega⟩, by cases g <;> decide, ?_⟩
  rw [show (goneB g == 1#8) = g by cases g <;> rfl]; exact hr
end
def encL (L : List PairT) : List (BitVec 8) := (L.map fun p => recP p.gone p.key p.val.2).flatten
theorem encK_L (L : List PairT) : ∀ k, k ≤ L.length → encK L k = encL (L.take k)
  | 0, _ => rfl
  | k + 1, h => by
    rw [← encK_S, encK_L L k oM, take_getD (show k < L.length by omega)]
    unfold encL; simp
theorem encV_L {L : List PairT} (h : allR L L.length = true) : encV L = encL L := by rw [(enc_yes h).1, encK_L L _ (Nat.le_refl _), List.take_length]
theorem right_key {n m : Nat} {g : Bool} (h : rightB n m g = true) : 1 ≤ n ∧ n ≤ 1000 := by
  unfold rightB at h
  rw [Bool.and_eq_true, Bool.and_eq_true, decide_eq_true_eq, decide_eq_true_eq] at h
  omega
theorem recP_pos {g : Bool} {k : ByteArray} {v : List (BitVec 8)} : 0 < (recP g k v).length := by rw [recP_len]; omega
theorem decF_encL : ∀ (L : List PairT) (f : Nat), (encL L).length ≤ f → (∀ p ∈ L, rightP p = true ∧ p.val.2.length < 4294967296) → decF f (encL L) = some (L.map oneOf)
  | [], 0, _, _ => rfl
  | [], f + 1, _, _ => rfl
  | p :: L, f, hf, h => by
    have hp := h p List.mem_cons_self
    have e : encL (p :: L) = recP p.gone p.key p.val.2 ++ encL L := rfl
    have hk := (right_key hp.1).2
    have hpos := recP_pos (g := p.gone) (k := p.key) (v := p.val.2)
    rw [e, List.length_append] at hf
    obtain ⟨f', rfl⟩ : ∃ f', f = f' + 1 := ⟨f - 1, by omega⟩
    have ih := decF_encL L f' oM (fun q hq => h q (List.mem_cons_of_mem _ hq))
    rw [e]
    unfold decF
    rw [rec_ok oM hp.2 hp.1, rec_one oM hp.2, rec_rest oM hp.2, ih]
    have hne : (recP p.gone p.key p.val.2 ++ encL L).length ≠ 0 := by rw [List.length_append]; omega
    simp [hne]
    rfl
theorem allR_mem {L : List PairT} (h : allR L L.length = true) : ∀ p ∈ L, rightP p = true := by
  unfold allR at h; rw [List.take_length, List.all_eq_true] at h; exact h
theorem dec_enc {L : List PairT} (h : allR L L.length = true) (hv : ∀ p ∈ L, p.val.2.length < 4294967296) : decP (encV L) = some (L.map oneOf) := by
  unfold decP
  rw [encV_L h]
  exact decF_encL L _ (Nat.le_refl _) fun p hp => ⟨allR_mem h p hp, hv p hp⟩
theorem encL_congr {L M : List PairT} (h : L.map oneOf = M.map oneOf) : encL L = encL M := by
  have e : ∀ L : List PairT, encL L = ((L.map oneOf).map fun o => recP o.gone (strOf o.key) o.val).flatten := fun L => by
    unfold encL; rw [List.map_map]; congr 1
    refine List.map_congr_left fun p _ => ?_
    show _ = recP p.gone (strOf (bytesL p.key)) p.val.2
    rw [strOf_bytesL]
  rw [e, e, h]
/-- All that stands in a store as one record. -/
def prOf (p : KV) : PairT := ⟨p.1, ((none, 0, 0), p.2), false⟩
def encS (S : List KV) : List (BitVec 8) := encL (S.map prOf)
/-- Keys and values may be. -/
def RightK (S : List KV) : Prop := ∀ p ∈ S, 1 ≤ p.1.size ∧ p.1.size ≤ 1000 ∧ p.2.length ≤ 1048576
theorem RightK.small {S : List KV} (h : RightK S) : SmallK S := fun p hp => by have := h p hp; omega
theorem ones_of {ps : List PairT} {S : List KV} (h : ps.map kvOf = S) (hg : ∀ a ∈ ps, a.gone = false) : ps.map oneOf = (S.map prOf).map oneOf := by
  subst h
  rw [List.map_map, List.map_map]
  refine List.map_congr_left fun p hp => ?_
  show OneT.mk _ _ _ = OneT.mk _ _ _
  rw [hg p hp]; rfl
theorem right_all {ps : List PairT} {S : List KV} (h : ps.map kvOf = S) (hg : ∀ a ∈ ps, a.gone = false) (hr : RightK S) : allR ps ps.length = true := by
  unfold allR
  rw [List.take_length, List.all_eq_true]
  intro p hp
  have h1 := hr (kvOf p) (by rw [← h]; exact List.mem_map.2 ⟨p, hp, rfl⟩)
  unfold rightP rightB
  rw [hg p hp]
  have a1 : 1 ≤ p.key.size := h1.1
  have a2 : p.key.size ≤ 1000 := h1.2.1
  rw [decide_eq_true (show (0 : Int) < (p.key.size : Int) by omega), decide_eq_true (show (p.key.size : Int) ≤ 1000 by omega)]; rfl
theorem enc_all {ps : List PairT} {S : List KV} (h : ps.map kvOf = S) (hg : ∀ a ∈ ps, a.gone = false) (hr : RightK S) : encV ps = encS S ∧ encE ps = 0 := by
  have ha := right_all h hg hr
  exact ⟨(encV_L ha).trans (encL_congr (ones_of h hg)), (enc_yes ha).2⟩
theorem pr_kv (S : List KV) : (S.map prOf).map kvOf = S := by rw [List.map_map]; exact List.map_id' _
theorem pr_gone {S : List KV} : ∀ a ∈ S.map prOf, a.gone = false := fun a ha => by obtain ⟨p, _, rfl⟩ := List.mem_map.1 ha; rfl
theorem dec_all {S : List KV} (hr : RightK S) : decP (encS S) = some ((S.map prOf).map oneOf) := by
  have ha := right_all (pr_kv S) pr_gone hr
  have := dec_enc ha (fun p hp => by
    obtain ⟨q, hq, rfl⟩ := List.mem_map.1 hp
    have := hr q hq
    show q.2.length < _; omega)
  rw [encV_L ha] at this; exact this
theorem ins_last {S : List KV} {k : ByteArray} {v : List (BitVec 8)} (h : ∀ p ∈ S, kl p.1 < kl k) : insK S k v = S ++ [(k, v)] := by
  induction S with
  | nil => rfl
  | cons p S ih =>
    obtain ⟨a, b⟩ := p
    unfold insK
    rw [if_pos (klt_iff.2 (h _ List.mem_cons_self)), ih fun q hq => h q (List.mem_cons_of_mem _ hq)]; rfl
theorem do_sorted (S : List KV) : ∀ (T : List KV), SortK (T ++ S) → doO T ((S.map prOf).map oneOf) = T ++ S := by
  induction S with
  | nil => intro T _; simp [doO]
  | cons p S ih =>
    intro T h
    have e : doO T (((p :: S).map prOf).map oneOf) = doO (insK T p.1 p.2) ((S.map prOf).map oneOf) := by
      show doO (insK T (strOf (bytesL p.1)) p.2) _ = _
      rw [strOf_bytesL]
    rw [e, ins_last fun q hq => (List.pairwise_append.1 h).2.2 q hq p List.mem_cons_self, ih _ (by rw [List.append_assoc]; exact h), List.append_assoc]; rfl
theorem openS_all {S : List KV} (hs : SortK S) (hr : RightK S) : openS [encS S] = S ∧ okS [encS S] = true := by
  have hd := dec_all hr
  refine ⟨?_, by rw [okS_one, hd]; rfl⟩
  rw [openS_one, (dec_yes hd).1]
  exact do_sorted S [] hs
/-! A commit. -/
def commitF (hh : Nat) (LW : List (List (BitVec 8))) (lp : List PairT) : Int × List (List (BitVec 8)) :=
  if allR lp lp.length = false then (1, LW) else
  if fitsB (hh : Int) (roomB LW : Int) (encV lp).length = true then (0, LW ++ [encV lp]) else
  if blocksN (encS (doK (openS LW) lp lp.length)).length ≤ hh then (0, [encS (doK (openS LW) lp lp.length)]) else (6, LW)
theorem do_right {S : List KV} {lp : List PairT} (hS : RightK S) (h : allR lp lp.length = true) (hv : ∀ p ∈ lp, p.val.2.length ≤ 1048576) : RightK (doK S lp lp.length) := by
  rw [doK_all]
  have hr := allR_mem h
  clear h
  induction lp generalizing S with
  | nil => exact hS
  | cons p lp ih =>
    have h1 := hr p List.mem_cons_self
    have h2 := hv p List.mem_cons_self
    have hk := right_key h1
    refine ih (S := if (oneOf p).gone then delK S (strOf (oneOf p).key) else insK S (strOf (oneOf p).key) (oneOf p).val) ?_ (fun q hq => hv q (List.mem_cons_of_mem _ hq)) (fun q hq => hr q (List.mem_cons_of_mem _ hq))
    split
    · exact fun q hq => hS q (delK_mem hq)
    · intro q hq
      rcases insK_mem hq with rfl | hq
      · show 1 ≤ (strOf (bytesL p.key)).size ∧ (strOf (bytesL p.key)).size ≤ 1000 ∧ p.val.2.length ≤ _
        rw [strOf_bytesL]; omega
      · exact hS q hq
theorem commit_ok {hh : Nat} {LW : List (List (BitVec 8))} {lp : List PairT} (hok : okS LW = true) (hS : RightK (openS LW)) (hv : ∀ p ∈ lp, p.val.2.length ≤ 1048576) :
    okS (commitF hh LW lp).2 = true ∧ openS (commitF hh LW lp).2 = (if (commitF hh LW lp).1 = 0 then doK (openS LW) lp lp.length else openS LW) := by
  unfold commitF
  cases ha : allR lp lp.length with
  | false => simp [hok]
  | true =>
    have hd := dec_enc ha fun p hp => by have := hv p hp; omega
    have hr := do_right hS ha hv
    have hs : SortK (doK (openS LW) lp lp.length) := doK_sort (openK_sort LW _) lp _
    simp only [Bool.true_eq_false, if_false]
    split
    · simp only [if_true]
      exact ⟨by rw [okS_app, hok, hd]; rfl, by rw [openS_app, (dec_yes hd).1, doK_all]⟩
    · split
      · simp only [if_true]
        exact ⟨(openS_all hs hr).2, (openS_all hs hr).1⟩
      · simp [hok]
theorem dec_el : ∀ (f : Nat) (b : List (BitVec 8)) (l : List OneT), decF f b = some l → (∀ o ∈ l, 1 ≤ o.key.length ∧ o.key.length ≤ 1000 ∧ o.val.length ≤ b.length) ∧ l.length ≤ b.length
  | 0, b, l, h => by
    unfold decF at h
    split at h
    · cases h; exact ⟨fun o ho => (by cases ho), Nat.zero_le _⟩
    · cases h
  | f + 1, b, l, h => by
    unfold decF at h
    split at h
    · cases h; exact ⟨fun o ho => (by cases ho), Nat.zero_le _⟩
    · split at h
      · rename_i h0 hok
        cases hd : decF f (oneR b) with
        | none => rw [hd] at h; cases h
        | some l' =>
          rw [hd] at h
          simp only [Option.map_some, Option.some.injEq] at h
          subst h
          obtain ⟨h1, h2⟩ := dec_el f (oneR b) l' hd
          have hlt : (oneR b).length < b.length := oneR_lt oM
          have hok' := hok
          unfold oneOk at hok'
          rw [Bool.and_eq_true, Bool.and_eq_true, Bool.and_eq_true] at hok'
          have hk := right_key hok'.2.2.2
          have hkl : ((b.drop 3).take (kN b)).length ≤ kN b := by rw [List.length_take]; omega
          have hkl2 : ((b.drop 3).take (kN b)).length = kN b := k_len (by have := hok'.1; exact this)
          refine ⟨fun o ho => ?_, ?_⟩
          · rcases List.mem_cons.1 ho with ho | ho
            · subst ho
              refine ⟨?_, ?_, ?_⟩
              · show 1 ≤ ((b.drop 3).take (kN b)).length; omega
              · show ((b.drop 3).take (kN b)).length ≤ 1000; omega
              · show ((b.drop (7 + kN b)).take (vN_ b)).length ≤ b.length
                rw [List.length_take, List.length_drop]; omega
            · have := h1 o ho; omega
          · rw [List.length_cons]; omega
      · cases h
theorem decV_el (b : List (BitVec 8)) : (∀ o ∈ decV b, 1 ≤ o.key.length ∧ o.key.length ≤ 1000 ∧ o.val.length ≤ b.length) ∧ (decV b).length ≤ b.length := by
  unfold decV
  cases h : decP b with
  | none => exact ⟨fun o ho => (by cases ho), Nat.zero_le _⟩
  | some l => exact dec_el _ _ _ h
theorem ones_small {ps : List PairT} {b : List (BitVec 8)} (h : ps.map oneOf = decV b) (hb : b.length ≤ 1048576) : (∀ a ∈ ps, a.key.size ≤ 1048576 ∧ a.val.2.length ≤ 1048576) ∧ ps.length ≤ 1048576 := by
  obtain ⟨h1, h2⟩ := decV_el b
  constructor
  · intro a ha
    have := h1 (oneOf a) (by rw [← h]; exact List.mem_map.2 ⟨a, ha, rfl⟩)
    have e : (oneOf a).key.length = a.key.size := bytesL_length _
    have e2 : (oneOf a).val = a.val.2 := rfl
    rw [e, e2] at this
    omega
  · rw [← List.length_map (f := oneOf), h]; omega
theorem doO_right {S : List KV} {l : List OneT} (hS : RightK S) (h : ∀ o ∈ l, 1 ≤ o.key.length ∧ o.key.length ≤ 1000 ∧ o.val.length ≤ 1048576) : RightK (doO S l) := by
  induction l generalizing S with
  | nil => exact hS
  | cons o l ih =>
    refine ih (S := if o.gone then delK S (strOf o.key) else insK S (strOf o.key) o.val) ?_ (fun q hq => h q (List.mem_cons_of_mem _ hq))
    split
    · exact fun q hq => hS q (delK_mem hq)
    · intro q hq
      rcases insK_mem hq with rfl | hq
      · have := h o List.mem_cons_self
        show 1 ≤ (strOf o.key).size ∧ (strOf o.key).size ≤ 1000 ∧ o.val.length ≤ _
        rw [strOf_size]; exact this
      · exact hS q hq
theorem openK_right {L : List (List (BitVec 8))} (h : ∀ b ∈ L, b.length ≤ 1048576) : ∀ k, k ≤ L.length → RightK (openK L k)
  | 0, _ => fun p hp => (by cases hp)
  | k + 1, hk => doO_right (openK_right h k oM) fun o ho => by
    have h1 := (decV_el _).1 o ho
    have h2 := h (L.getD k []) (by rw [List.getD_eq_getElem?_getD, List.getElem?_eq_getElem (show k < L.length by omega)]; exact List.getElem_mem _)
    omega
theorem openS_right {L : List (List (BitVec 8))} (h : ∀ b ∈ L, b.length ≤ 1048576) : RightK (openS L) := openK_right h _ (Nat.le_refl _)
theorem blocks_len {n m : Nat} (h : blocksN n ≤ m) : n ≤ 42 * m := by unfold blocksN at h; omega
theorem le_sum_mem : ∀ {l : List Nat} {a : Nat}, a ∈ l → a ≤ l.sum
  | x :: l, a, h => by
    rw [List.sum_cons]
    rcases List.mem_cons.1 h with h | h
    · omega
    · have := le_sum_mem h; omega
theorem JI.el {Ls : List (List (BitVec 8))} {fr h : Nat} {g : BitVec 64} {L : List (List (BitVec 8))} (J : JI Ls fr h g L) : ∀ b ∈ L, b.length ≤ 84000 := fun b hb => by
  have h1 : blocksN b.length ≤ roomB L := by
    unfold roomB
    exact le_sum_mem (List.mem_map.2 ⟨b, hb, rfl⟩)
  have := J.room; have := J.small
  have := blocks_len (n := b.length) (m := 2000) oM
  omega


end Go.Proofs.Ytfbnhoolkajebaa
