/- Mails and notes: plain law. Conditions: none beyond those that each theorem states. -/
import Derived.Test.YtfmjfojhcmmgcaaTab
import Derived.Test.YtfmjfojhcmmgcaaFwY
namespace Go.Proofs.Ytfmjfojhcmmgcaa
set_option linter.unusedVariables false
set_option linter.unusedSimpArgs false
/-! ### Mails and notes, plainly -/
structure SentT where
  frm : ByteArray
  to_ : ByteArray
  id_ : ByteArray
  th : ByteArray
  sl : Bool
  body : SlT
structure NoteT where
  th : ByteArray
  frm : ByteArray
  id_ : ByteArray
  sl : Bool
  body : SlT
def encS (a : SentT) : List Value := [.string a.frm, .string a.to_, .string a.id_, .string a.th, bl a.sl, slv a.body]
def encN (a : NoteT) : List Value := [.string a.th, .string a.frm, .string a.id_, bl a.sl, slv a.body]
def sent0 : SentT := ⟨ByteArray.empty, ByteArray.empty, ByteArray.empty, ByteArray.empty, false, sl0⟩
def note0 : NoteT := ⟨ByteArray.empty, ByteArray.empty, ByteArray.empty, false, sl0⟩
def strv (s : ByteArray) : Value := .string s
theorem strv_one (s : ByteArray) : (strv s).oneCell' = true := rfl
theorem rdQ {α : Type} {l : List α} {d : α} {k : Nat} {m : Nat → Option Obj} (g : α → SlT) (h : ∀ a ∈ l, Rd m u8 (slv (g a)) (g a).2) (hk : k < l.length) : Rd m u8 (slv (g (l.getD k d))) (g (l.getD k d)).2 := by
  have e : l.getD k d = l[k] := by simp [List.getD_eq_getElem?_getD, hk]
  rw [e]; exact h _ (List.getElem_mem hk)
theorem getDQ {α : Type} {l : List α} {d : α} {k : Nat} {p : α → Prop} (h : ∀ a ∈ l, p a) (hk : k < l.length) : p (l.getD k d) := by
  have e : l.getD k d = l[k] := by simp [List.getD_eq_getElem?_getD, hk]
  rw [e]; exact h _ (List.getElem_mem hk)
def isOf (who : ByteArray) (n : NoteT) (s : SentT) : Bool := decide (s.to_ = who) && (decide (s.frm = n.frm) && decide (s.id_ = n.id_))
def atI (sent : List SentT) (who : ByteArray) (n : NoteT) : Int := match sent.findIdx? (isOf who n) with | some i => (i : Int) | none => -1
section
variable {sent : List SentT} {who : ByteArray} {n : NoteT} {notes : List NoteT}
theorem at_hit {k : Nat} (hk : k < sent.length) (hn : ∀ j, j < k → isOf who n (sent.getD j sent0) = false) (h : isOf who n (sent.getD k sent0) = true) : atI sent who n = k := by
  have hs : sent.findIdx? (isOf who n) = some k := by
    rw [List.findIdx?_eq_some_iff_getElem]
    refine ⟨hk, by simpa [List.getD_eq_getElem?_getD, hk] using h, fun j hj => ?_⟩
    have := hn j hj
    simpa [List.getD_eq_getElem?_getD, show j < sent.length by omega] using this
  unfold atI; rw [hs]
theorem at_none (hn : ∀ j, j < sent.length → isOf who n (sent.getD j sent0) = false) : atI sent who n = -1 := by
  have hs : sent.findIdx? (isOf who n) = none := by
    rw [List.findIdx?_eq_none_iff]
    intro x hx
    obtain ⟨i, hi, rfl⟩ := List.mem_iff_getElem.1 hx
    have := hn i hi
    simpa [List.getD_eq_getElem?_getD, hi] using this
  unfold atI; rw [hs]
theorem at_range : -1 ≤ atI sent who n ∧ atI sent who n < sent.length := by
  unfold atI
  cases h : sent.findIdx? (isOf who n) with
  | none => simp only; omega
  | some i =>
    have := (List.findIdx?_eq_some_iff_getElem.1 h).1
    simp only; omega
def sameF (a b : ByteArray) (m : NoteT) : Bool := decide (m.frm = a) && decide (m.id_ = b)
def seenF (notes : List NoteT) (k : Nat) (p : ByteArray × ByteArray) : Bool := (notes.take k).any (sameF p.1 p.2)
theorem seen_0 (p : ByteArray × ByteArray) : false = seenF notes 0 p := rfl
theorem seen_any (k : Nat) (p : ByteArray × ByteArray) : seenF notes k p = (notes.take k).any (sameF p.1 p.2) := rfl
theorem seen_succ {k : Nat} (hk : k < notes.length) (p : ByteArray × ByteArray) : (if p = ((notes.getD k note0).frm, (notes.getD k note0).id_) then true else seenF notes k p) = seenF notes (k + 1) p := by
  unfold seenF
  have e : notes.take (k + 1) = notes.take k ++ [notes.getD k note0] := by rw [List.take_add_one]; simp [List.getD_eq_getElem?_getD, hk]
  rw [e, List.any_append]
  by_cases h : p = ((notes.getD k note0).frm, (notes.getD k note0).id_)
  · rw [if_pos h, h]; simp [sameF]
  · rw [if_neg h]
    have : sameF p.1 p.2 (notes.getD k note0) = false := by
      rw [Bool.eq_false_iff]; intro e; simp [sameF] at e
      exact h (Prod.ext e.1.symm e.2.symm)
    rw [List.any_cons, this, List.any_nil]; simp
theorem seen_all (p : ByteArray × ByteArray) : seenF notes notes.length p = notes.any (sameF p.1 p.2) := by unfold seenF; rw [List.take_length]
theorem any_succ {k : Nat} (hk : k < notes.length) (q : NoteT → Bool) : ((notes.take k).any q || q (notes.getD k note0)) = (notes.take (k + 1)).any q := by
  have e : notes.take (k + 1) = notes.take k ++ [notes.getD k note0] := by rw [List.take_add_one]; simp [List.getD_eq_getElem?_getD, hk]
  rw [e, List.any_append]; simp
/-- One note's part in a fault. -/
def stepF (sent : List SentT) (who : ByteArray) (pre : List NoteT) (n : NoteT) (f : Int) : Bool :=
  if f = 1 then decide (atI sent who n < 0)
  else if f = 2 then pre.any (sameF n.frm n.id_)
  else decide (0 ≤ atI sent who n) && (if f = 3 then !decide ((sent.getD (atI sent who n).toNat sent0).th = n.th) else if f = 4 then !((sent.getD (atI sent who n).toNat sent0).body.2 == n.body.2) else if f = 5 then (sent.getD (atI sent who n).toNat sent0).sl != n.sl else false)
def accF (sent : List SentT) (who : ByteArray) (notes : List NoteT) : Nat → Int → Bool
  | 0, _ => false
  | k + 1, f => accF sent who notes k f || stepF sent who (notes.take k) (notes.getD k note0) f
theorem acc_0 (f : Int) : false = accF sent who notes 0 f := rfl
def judgeF (sent : List SentT) (who : ByteArray) (notes : List NoteT) : List Int := [1, 2, 3, 4, 5].filter (accF sent who notes notes.length)
theorem acc_step {m1 m' : Int → Bool} {k : Nat} (ih : ∀ f, 1 ≤ f → f ≤ 5 → m1 f = accF sent who notes k f)
    (e1 : m' 1 = (m1 1 || stepF sent who (notes.take k) (notes.getD k note0) 1)) (e2 : m' 2 = (m1 2 || stepF sent who (notes.take k) (notes.getD k note0) 2)) (e3 : m' 3 = (m1 3 || stepF sent who (notes.take k) (notes.getD k note0) 3))
    (e4 : m' 4 = (m1 4 || stepF sent who (notes.take k) (notes.getD k note0) 4)) (e5 : m' 5 = (m1 5 || stepF sent who (notes.take k) (notes.getD k note0) 5)) : ∀ f, 1 ≤ f → f ≤ 5 → m' f = accF sent who notes (k + 1) f := by
  intro f h1 h5
  have hi := ih f h1 h5
  rcases (by omega : f = 1 ∨ f = 2 ∨ f = 3 ∨ f = 4 ∨ f = 5) with rfl | rfl | rfl | rfl | rfl
  · rw [e1, hi]; rfl
  · rw [e2, hi]; rfl
  · rw [e3, hi]; rfl
  · rw [e4, hi]; rfl
  · rw [e5, hi]; rfl
theorem st_1 {pre : List NoteT} : stepF sent who pre n 1 = decide (atI sent who n < 0) := rfl
theorem st_2 {pre : List NoteT} : stepF sent who pre n 2 = pre.any (sameF n.frm n.id_) := rfl
theorem st_3 {pre : List NoteT} : stepF sent who pre n 3 = (decide (0 ≤ atI sent who n) && !decide ((sent.getD (atI sent who n).toNat sent0).th = n.th)) := rfl
theorem st_4 {pre : List NoteT} : stepF sent who pre n 4 = (decide (0 ≤ atI sent who n) && !((sent.getD (atI sent who n).toNat sent0).body.2 == n.body.2)) := rfl
theorem st_5 {pre : List NoteT} : stepF sent who pre n 5 = (decide (0 ≤ atI sent who n) && ((sent.getD (atI sent who n).toNat sent0).sl != n.sl)) := rfl
theorem st_no {pre : List NoteT} (h : decide (0 ≤ atI sent who n) = false) : stepF sent who pre n 1 = true ∧ stepF sent who pre n 3 = false ∧ stepF sent who pre n 4 = false ∧ stepF sent who pre n 5 = false := by
  rw [st_1, st_3, st_4, st_5, h]
  exact ⟨decide_eq_true (by have := of_decide_eq_false h; omega), rfl, rfl, rfl⟩
theorem st_ok {pre : List NoteT} (h : decide (0 ≤ atI sent who n) = true) : stepF sent who pre n 1 = false ∧ stepF sent who pre n 3 = (!decide ((sent.getD (atI sent who n).toNat sent0).th = n.th)) ∧ stepF sent who pre n 4 = (!((sent.getD (atI sent who n).toNat sent0).body.2 == n.body.2)) ∧ stepF sent who pre n 5 = ((sent.getD (atI sent who n).toNat sent0).sl != n.sl) := by
  rw [st_1, st_3, st_4, st_5, h]
  exact ⟨decide_eq_false (by have := of_decide_eq_true h; omega), rfl, rfl, rfl⟩
def jpre (sent : List SentT) (who : ByteArray) (notes : List NoteT) (f : Nat) : List Int := (([1, 2, 3, 4, 5] : List Int).take f).filter (accF sent who notes notes.length)
theorem jpre_5 : jpre sent who notes 5 = judgeF sent who notes := rfl
theorem jpre_succ {f : Nat} (h : f < 5) : jpre sent who notes (f + 1) = jpre sent who notes f ++ (if accF sent who notes notes.length ((f : Int) + 1) = true then [(f : Int) + 1] else []) := by
  unfold jpre
  match f, h with
  | 0, _ => simp [List.filter_cons]
  | 1, _ => simp only [List.take, List.filter_cons, List.filter_nil]; split <;> split <;> simp_all
  | 2, _ => simp only [List.take, List.filter_cons, List.filter_nil]; split <;> split <;> split <;> simp_all
  | 3, _ => simp only [List.take, List.filter_cons, List.filter_nil]; split <;> split <;> split <;> split <;> simp_all
  | 4, _ => simp only [List.take, List.filter_cons, List.filter_nil]; split <;> split <;> split <;> split <;> split <;> simp_all
theorem jpre_len (f : Nat) : (jpre sent who notes f).length ≤ 5 := by
  unfold jpre
  refine Nat.le_trans (List.length_filter_le _ _) ?_
  simp; omega
theorem judge_len : (judgeF sent who notes).length ≤ 5 := jpre_len 5
/-- What isn't delivered. -/
def missK (sent : List SentT) (who : ByteArray) (notes : List NoteT) (k : Nat) : List ByteArray := ((sent.take k).filter fun s => decide (s.to_ = who) && !(notes.any (sameF s.frm s.id_))).map (·.id_)
def missF (sent : List SentT) (who : ByteArray) (notes : List NoteT) : List ByteArray := missK sent who notes sent.length
theorem miss_yes {k : Nat} (hk : k < sent.length) (h : decide ((sent.getD k sent0).to_ = who) = true) (h2 : notes.any (sameF (sent.getD k sent0).frm (sent.getD k sent0).id_) = false) : missK sent who notes (k + 1) = missK sent who notes k ++ [(sent.getD k sent0).id_] := by
  unfold missK
  have e : sent.take (k + 1) = sent.take k ++ [sent.getD k sent0] := by rw [List.take_add_one]; simp [List.getD_eq_getElem?_getD, hk]
  rw [e, List.filter_append, List.map_append]
  have : (decide ((sent.getD k sent0).to_ = who) && !(notes.any (sameF (sent.getD k sent0).frm (sent.getD k sent0).id_))) = true := by rw [h, h2]; rfl
  rw [List.filter_cons_of_pos (p := fun s : SentT => decide (s.to_ = who) && !(notes.any (sameF s.frm s.id_))) this]; simp
theorem miss_no {k : Nat} (hk : k < sent.length) (h : decide ((sent.getD k sent0).to_ = who) = true → notes.any (sameF (sent.getD k sent0).frm (sent.getD k sent0).id_) = true) : missK sent who notes (k + 1) = missK sent who notes k := by
  unfold missK
  have e : sent.take (k + 1) = sent.take k ++ [sent.getD k sent0] := by rw [List.take_add_one]; simp [List.getD_eq_getElem?_getD, hk]
  rw [e, List.filter_append, List.map_append]
  have : ¬ (decide ((sent.getD k sent0).to_ = who) && !(notes.any (sameF (sent.getD k sent0).frm (sent.getD k sent0).id_))) = true := by
    intro e
    rw [Bool.and_eq_true] at e
    rw [h e.1] at e
    exact absurd e.2 (by decide)
  rw [List.filter_cons_of_neg (p := fun s : SentT => decide (s.to_ = who) && !(notes.any (sameF s.frm s.id_))) this]; simp
theorem miss_0 : [] = missK sent who notes 0 := rfl
theorem miss_len (k : Nat) : (missK sent who notes k).length ≤ sent.length := by
  unfold missK
  rw [List.length_map]
  refine Nat.le_trans (List.length_filter_le _ _) ?_
  simp; omega
theorem strOf_inj {a b : List (BitVec 8)} : decide (strOf a = strOf b) = (a == b) := by
  rw [Bool.eq_iff_iff, decide_eq_true_eq, beq_iff_eq]
  constructor
  · intro h
    have h1 := congrArg (fun s : ByteArray => s.data.toList) h
    simp only [strOf] at h1
    exact (List.map_inj_right (f := UInt8.ofBitVec) (fun x y e => by simpa using congrArg UInt8.toBitVec e)).1 h1
  · intro h; rw [h]
end
section
variable {who : ByteArray} {n : NoteT} {s : SentT}
theorem isOf_t (h1 : decide (s.to_ = who) = true) (h2 : decide (s.frm = n.frm) = true) (h3 : decide (s.id_ = n.id_) = true) : isOf who n s = true := by unfold isOf; rw [h1, h2, h3]; rfl
theorem isOf_1 (h1 : decide (s.to_ = who) = false) : isOf who n s = false := by unfold isOf; rw [h1]; rfl
theorem isOf_2 (h1 : decide (s.frm = n.frm) = false) : isOf who n s = false := by unfold isOf; rw [h1, Bool.false_and, Bool.and_false]
theorem isOf_3 (h1 : decide (s.id_ = n.id_) = false) : isOf who n s = false := by unfold isOf; rw [h1, Bool.and_false, Bool.and_false]
theorem all_succ {p : Nat → Prop} {k : Nat} (h : ∀ j, j < k → p j) (hk : p k) : ∀ j, j < k + 1 → p j := fun j hj => by
  rcases Nat.lt_or_ge j k with h1 | h1
  · exact h j h1
  · obtain rfl : j = k := by omega
    exact hk
theorem or_true_l {a b : Bool} (h : a = true) : true = (a || b) := by rw [h]; rfl
end
section
variable {sent : List SentT} {who : ByteArray} {n : NoteT} {notes : List NoteT}
theorem jpre_0 : [] = jpre sent who notes 0 := rfl
theorem step_or {pre : List NoteT} {f : Int} (h1 : 1 ≤ f) (h5 : f ≤ 5) : stepF sent who pre n f = (((f == 1 && decide (atI sent who n < 0)) || (f == 2 && pre.any (sameF n.frm n.id_))) || (decide (0 ≤ atI sent who n) && (((f == 3 && !decide ((sent.getD (atI sent who n).toNat sent0).th = n.th)) || (f == 4 && !((sent.getD (atI sent who n).toNat sent0).body.2 == n.body.2))) || (f == 5 && ((sent.getD (atI sent who n).toNat sent0).sl != n.sl))))) := by
  rcases (by omega : f = 1 ∨ f = 2 ∨ f = 3 ∨ f = 4 ∨ f = 5) with rfl | rfl | rfl | rfl | rfl
  · rw [st_1]; simp
  · rw [st_2]; simp
  · rw [st_3]; simp
  · rw [st_4]; simp
  · rw [st_5]; simp
theorem acc_of {k : Nat} {f : Int} {fnd fa fb X C : Bool} (h1 : 1 ≤ f) (h5 : f ≤ 5) (hf : fnd = accF sent who notes k f) (hfa : fa = (fnd || ((f == 1) && decide (atI sent who (notes.getD k note0) < 0))))
    (hfb : fb = (fa || ((f == 2) && (notes.take k).any (sameF (notes.getD k note0).frm (notes.getD k note0).id_)))) (hC : C = (decide (0 ≤ atI sent who (notes.getD k note0)) && (((f == 3 && !decide ((sent.getD (atI sent who (notes.getD k note0)).toNat sent0).th = (notes.getD k note0).th)) || (f == 4 && !((sent.getD (atI sent who (notes.getD k note0)).toNat sent0).body.2 == (notes.getD k note0).body.2))) || (f == 5 && ((sent.getD (atI sent who (notes.getD k note0)).toNat sent0).sl != (notes.getD k note0).sl)))))
    (hX : X = (fb || C)) : X = accF sent who notes (k + 1) f := by
  show X = (accF sent who notes k f || stepF sent who (notes.take k) (notes.getD k note0) f)
  rw [step_or h1 h5, ← hf, hX, hfb, hfa, hC]
  simp only [Bool.or_assoc]
end
theorem kok_i : KeyOk Try.prog 3 (fun n : Int => i64 n) := key_i64 uT3
theorem kok_m : KeyOk Try.prog 82 two := key_two uT82 (by kernel_rfl) (by decide) (by decide) rfl rfl rfl rfl uT9
theorem told_true {α : Type} [BEq α] [LawfulBEq α] {a b : α} (h : a = b) : (a == b) = true := by rw [h]; exact beq_self_eq_true b
theorem told_ne {α : Type} [BEq α] [LawfulBEq α] {a b : α} (h : a = b) : (a != b) = false := by rw [h]; simp
theorem opens_sent : Opens Try.prog 39 (fun w cs => ∃ a : SentT, cs = encS a ∧ (encS a).length = 6 ∧ Rd (blks w) u8 (slv a.body) a.body.2) :=
  (opens_s6 uT39 (by kernel_rfl) ⟨rfl, rfl, rfl, rfl, rfl, rfl⟩ ⟨by kernel_rfl, by kernel_rfl, by kernel_rfl, by kernel_rfl, by kernel_rfl, by kernel_rfl⟩ (opens_str1 uT9) (opens_str1 uT9) (opens_str1 uT9) (opens_str1 uT9) (opens_bool1 uT4) (opens_bytes1 uT24 (by kernel_rfl) (opens_u8 uT5))).mono (by rintro w cs ⟨v0, v1, v2, v3, v4, v5, rfl, ⟨a0, rfl⟩, ⟨a1, rfl⟩, ⟨a2, rfl⟩, ⟨a3, rfl⟩, ⟨a4, rfl⟩, ⟨a5, rfl, h5, h6⟩⟩; exact ⟨⟨a0, a1, a2, a3, a4, a5⟩, rfl, rfl, h5⟩)
theorem opens_note : Opens Try.prog 26 (fun w cs => ∃ a : NoteT, cs = encN a ∧ (encN a).length = 5 ∧ Rd (blks w) u8 (slv a.body) a.body.2) :=
  (opens_s5 uT26 (by kernel_rfl) ⟨rfl, rfl, rfl, rfl, rfl⟩ ⟨by kernel_rfl, by kernel_rfl, by kernel_rfl, by kernel_rfl, by kernel_rfl⟩ (opens_str1 uT9) (opens_str1 uT9) (opens_str1 uT9) (opens_bool1 uT4) (opens_bytes1 uT24 (by kernel_rfl) (opens_u8 uT5))).mono (by rintro w cs ⟨v0, v1, v2, v3, v4, rfl, ⟨a0, rfl⟩, ⟨a1, rfl⟩, ⟨a2, rfl⟩, ⟨a3, rfl⟩, ⟨a4, rfl, h5, h6⟩⟩; exact ⟨⟨a0, a1, a2, a3, a4⟩, rfl, rfl, h5⟩)
set_option maxRecDepth 100000 in
theorem arg_note {W : World} {b0 : Nat} {v : Value} {H : Type} {en : TypeId × Value → H} {d : DataW H} {ps : List MemPlace} {r : Reach} (hval : Value.okWide Try.prog W r b0 26 v) (h : DataW.Trod en Try.prog W 0 (fun _ => true) true 26 v d ps) :
    ∃ a : NoteT, v = .agg #[.string a.th, .string a.frm, .string a.id_, bl a.sl, slv a.body] ∧ Rd (blks W) u8 (slv a.body) a.body.2 := by
  obtain ⟨cs, rfl⟩ := arg_agg uT26 hval
  obtain ⟨a, hl, _, hb⟩ := opens_note.of h
  refine ⟨a, ?_, hb⟩
  have : cs.toList = encN a := by simpa [Value.cells] using hl
  congr 1
  apply Array.ext'
  rw [this]; rfl


end Go.Proofs.Ytfmjfojhcmmgcaa
